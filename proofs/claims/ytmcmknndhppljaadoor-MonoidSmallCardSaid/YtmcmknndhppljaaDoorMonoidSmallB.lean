/-
  Layer 13: Check, walked.
  The reference of layer 13, walked: Of, Add, Whole, Less, Times.
  The reference of layer 13: Right, walked.
  Layer 13: Check and the reference's Right, at every reduction.
  Layer 13: One and both, walked.
  Layer 13: what is told of a reduction, and the names of what is told, walked.
  Layer 13: Tell, of the sum, walked.
  Layer 13: Join, walked.
  The law's own look whether the layer works at all: it does.
-/
import Derived.Test.YtmcmknndhppljaaDoorMonoidSmallA
import Derived.Test.YtmcmknndhppljaaDoorProg
import Derived.WalkKit
import Derived.WalkSpells
import Derived.WalkLawsBesides
import Derived.Lib.Hide
import Derived.Laws.EntriesVeiled
import Derived.LoopN
import Derived.WalkMore
import Derived.Deep.MidRow
import Derived.Laws.AppendOwn
namespace Go.Proofs.YtmcmknndhppljaaDoor
set_option linter.unusedVariables false
set_option linter.unusedSimpArgs false
open Go.RowKit Go.Dav
attribute [local go_sem] Gives ite_val ite_val_true

set_option maxRecDepth 4000 in
theorem Tryd_Check_bad (c n s l m : Int) (w : World) (h : n < 0 ∨ c < n ∨ 1073741824 < c) :
    Calls Tryd.prog 45 #[.agg #[.int .i64 c, .int .i64 n, .int .i64 (hi s), .int .u64 (lo s), .int .i64 l, .int .i64 m]] w fun e w' =>
      e = .returned (.int .i64 230) ∧ Below w.heap.size w w' := by
  by_cases h1 : c < 0
  · go_enter Tryd.func45, Tryd.ntmps45
    go_wp2
    go_ret
    exact ⟨rfl, (by repeat (first | (with_reducible exact Below.refl _ _) | (with_reducible exact Below.refl _ _) | (with_reducible refine Below.setCell ?_ (by first | omega | (simp; done) | (simp; omega)) _) | (with_reducible refine Below.alloc ?_ (by first | omega | (simp; done) | (simp; omega)) _) | (with_reducible refine Below.drew ?_) | (with_reducible refine below_drewN ?_ _)))⟩
  by_cases h2 : 1073741824 < c
  · go_enter Tryd.func45, Tryd.ntmps45
    go_wp2
    go_ret
    exact ⟨rfl, (by repeat (first | (with_reducible exact Below.refl _ _) | (with_reducible exact Below.refl _ _) | (with_reducible refine Below.setCell ?_ (by first | omega | (simp; done) | (simp; omega)) _) | (with_reducible refine Below.alloc ?_ (by first | omega | (simp; done) | (simp; omega)) _) | (with_reducible refine Below.drew ?_) | (with_reducible refine below_drewN ?_ _)))⟩
  by_cases h3 : n < 0
  · go_enter Tryd.func45, Tryd.ntmps45
    go_wp2
    go_ret
    exact ⟨rfl, (by repeat (first | (with_reducible exact Below.refl _ _) | (with_reducible exact Below.refl _ _) | (with_reducible refine Below.setCell ?_ (by first | omega | (simp; done) | (simp; omega)) _) | (with_reducible refine Below.alloc ?_ (by first | omega | (simp; done) | (simp; omega)) _) | (with_reducible refine Below.drew ?_) | (with_reducible refine below_drewN ?_ _)))⟩
  have h4 : c < n := by omega
  go_enter Tryd.func45, Tryd.ntmps45
  go_wp2
  go_ret
  exact ⟨rfl, (by repeat (first | (with_reducible exact Below.refl _ _) | (with_reducible exact Below.refl _ _) | (with_reducible refine Below.setCell ?_ (by first | omega | (simp; done) | (simp; omega)) _) | (with_reducible refine Below.alloc ?_ (by first | omega | (simp; done) | (simp; omega)) _) | (with_reducible refine Below.drew ?_) | (with_reducible refine below_drewN ?_ _)))⟩

set_option maxRecDepth 4000 in
theorem Tryd_Check_0 (c s l m : Int) (w : World) (h1 : 0 ≤ c) (h2 : c ≤ 1073741824) :
    Calls Tryd.prog 45 #[.agg #[.int .i64 c, .int .i64 0, .int .i64 (hi s), .int .u64 (lo s), .int .i64 l, .int .i64 m]] w fun e w' =>
      e = .returned (.int .i64 (redE (decide (hi s = 0 ∧ lo s = 0 ∧ l = 0 ∧ m = 0)))) ∧ Below w.heap.size w w' := by
  generalize hb : decide (hi s = 0 ∧ lo s = 0 ∧ l = 0 ∧ m = 0) = b
  have Hb := Lib.hid hb; clear hb
  go_enter Tryd.func45, Tryd.ntmps45
  go_wp2
  all_goals (go_ret; refine ⟨ret_int ?_, (by repeat (first | (with_reducible exact Below.refl _ _) | (with_reducible exact Below.refl _ _) | (with_reducible refine Below.setCell ?_ (by first | omega | (simp; done) | (simp; omega)) _) | (with_reducible refine Below.alloc ?_ (by first | omega | (simp; done) | (simp; omega)) _) | (with_reducible refine Below.drew ?_) | (with_reducible refine below_drewN ?_ _)))⟩; have hb := Hb.out; cases b <;> simp_all [redE] <;> omega)

set_option maxRecDepth 4000 in
theorem Tryd_Check_1 (c s l m : Int) (w : World) (h1 : 1 ≤ c) (h2 : c ≤ 1073741824) (hl : I64 l) :
    Calls Tryd.prog 45 #[.agg #[.int .i64 c, .int .i64 1, .int .i64 (hi s), .int .u64 (lo s), .int .i64 l, .int .i64 m]] w fun e w' =>
      e = .returned (.int .i64 (redE (decide (l = m ∧ hi s = hi l ∧ lo s = lo l)))) ∧ Below w.heap.size w w' := by
  generalize hb : decide (l = m ∧ hi s = hi l ∧ lo s = lo l) = b
  have Hb := Lib.hid hb; clear hb
  by_cases hlm : l = m
  · subst hlm
    go_enter Tryd.func45, Tryd.ntmps45
    go_wp2_with fail
    refine' wp_region_seq [.inl _, .inl _, .inl _, .inl _, .inl _, .inl _, .inl _, .inl _, .inl _, .inl _, .inl _, .inl _, .inl _, .inl _] (by kernel_rfl) (by kernel_rfl) ?main1
    case main1 =>
      refine wpParts_det (by rfl) (fun W hE hN => ?_) ?_
      · go_simp; refine ⟨Below.refl _ _, ?_⟩; rfl
      simp only [Act.put, List.setIfInBounds_toArray, List.set_cons_zero, List.set_cons_succ]
      refine wpParts_det (by rfl) (fun W hE hN => ?_) ?_
      · have hc := fun b o h => hE.cell (p := ⟨b, o, none⟩) h
        go_simp; refine ⟨Below.refl _ _, ?_⟩; rfl
      simp only [Act.put, List.setIfInBounds_toArray, List.set_cons_zero, List.set_cons_succ]
      refine wpParts_det (by rfl) (fun W hE hN => ?_) ?_
      · go_simp; refine ⟨Below.refl _ _, ?_⟩; rfl
      simp only [Act.put, List.setIfInBounds_toArray, List.set_cons_zero, List.set_cons_succ]
      refine wpParts_det (by rfl) (fun W hE hN => ?_) ?_
      · have hc := fun b o h => hE.cell (p := ⟨b, o, none⟩) h
        go_simp; refine ⟨Below.refl _ _, ?_⟩; rfl
      simp only [Act.put, List.setIfInBounds_toArray, List.set_cons_zero, List.set_cons_succ]
      refine wpParts_det (by rfl) (fun W hE hN => ?_) ?_
      · go_simp; refine ⟨Below.refl _ _, ?_⟩; rfl
      simp only [Act.put, List.setIfInBounds_toArray, List.set_cons_zero, List.set_cons_succ]
      refine wpParts_det (by rfl) (fun W hE hN => ?_) ?_
      · go_simp; refine ⟨Below.refl _ _, ?_⟩; rfl
      simp only [Act.put, List.setIfInBounds_toArray, List.set_cons_zero, List.set_cons_succ]
      refine wpParts_det (by rfl) (fun W hE hN => ?_) ?_
      · have hc := fun b o h => hE.cell (p := ⟨b, o, none⟩) h
        go_simp; refine ⟨Below.refl _ _, ?_⟩; rfl
      simp only [Act.put, List.setIfInBounds_toArray, List.set_cons_zero, List.set_cons_succ]
      refine wpParts_det (by rfl) (fun W hE hN => ?_) ?_
      · go_simp; refine ⟨Below.refl _ _, ?_⟩; refine (Tryd_total _ _ _ _ _ _).mono ?_; rintro e w' ⟨rfl, hb⟩; refine ⟨?_, hb⟩; rfl
      simp only [Act.put, List.setIfInBounds_toArray, List.set_cons_zero, List.set_cons_succ]
      refine wpParts_det (by rfl) (fun W hE hN => ?_) ?_
      · go_simp; refine ⟨Below.refl _ _, ?_⟩; rfl
      simp only [Act.put, List.setIfInBounds_toArray, List.set_cons_zero, List.set_cons_succ]
      refine wpParts_det (by rfl) (fun W hE hN => ?_) ?_
      · have hc := fun b o h => hE.cell (p := ⟨b, o, none⟩) h
        go_simp; refine ⟨Below.refl _ _, ?_⟩; rfl
      simp only [Act.put, List.setIfInBounds_toArray, List.set_cons_zero, List.set_cons_succ]
      refine wpParts_det (by rfl) (fun W hE hN => ?_) ?_
      · go_simp; refine ⟨Below.refl _ _, ?_⟩; refine (Tryd_of _ _ hl).mono ?_; rintro e w' ⟨rfl, hb⟩; refine ⟨?_, hb⟩; rfl
      simp only [Act.put, List.setIfInBounds_toArray, List.set_cons_zero, List.set_cons_succ]
      refine wpParts_det (by rfl) (fun W hE hN => ?_) ?_
      · go_simp; refine ⟨Below.refl _ _, ?_⟩; rfl
      simp only [Act.put, List.setIfInBounds_toArray, List.set_cons_zero, List.set_cons_succ]
      refine wpParts_det (by rfl) (fun W hE hN => ?_) ?_
      · go_simp; refine ⟨Below.refl _ _, ?_⟩; rfl
      simp only [Act.put, List.setIfInBounds_toArray, List.set_cons_zero, List.set_cons_succ]
      refine wpParts_det (by rfl) (fun W hE hN => ?_) ?_
      · go_simp; refine ⟨Below.refl _ _, ?_⟩; rfl
      simp only [Act.put, List.setIfInBounds_toArray, List.set_cons_zero, List.set_cons_succ]
      refine wpParts_end fun W1 hE1 hG1 => ?_
      have hcW1 := fun b o h => hE1.cell (p := ⟨b, o, none⟩) h
      have hfW1 := fun b o h => hE1.frozen (p := ⟨b, o, none⟩) h
      go_wp2
      all_goals (go_ret; refine ⟨ret_int ?_, (by repeat (first | (with_reducible exact Below.refl _ _) | (with_reducible exact Below.refl _ _) | (with_reducible refine Below.setCell ?_ (by first | omega | (simp; done) | (simp; omega)) _) | (with_reducible refine Below.alloc ?_ (by first | omega | (simp; done) | (simp; omega)) _) | (with_reducible refine Below.drew ?_) | (with_reducible refine below_drewN ?_ _) | (with_reducible refine Below.trans ?_ (hE1.mono (by first | omega | (simp; done) | (simp; omega))))))⟩; have hb := Hb.out; cases b <;> simp_all [redE] <;> omega)
  · have hlm' : (l == m) = false := by simpa using hlm
    have hd : decide (l = m) = false := by simpa using hlm
    go_enter Tryd.func45, Tryd.ntmps45
    go_wp2_with fail
    refine' wp_region_seq [.inl _, .inl _, .inl _, .inl _, .inl _, .inl _, .inl undef, .inl undef, .inl undef, .inl undef, .inl undef, .inl undef, .inl _, .inl _] (by kernel_rfl) (by kernel_rfl) ?main2
    case main2 =>
      refine wpParts_det (by rfl) (fun W hE hN => ?_) ?_
      · go_simp; refine ⟨Below.refl _ _, ?_⟩; rfl
      simp only [Act.put, List.setIfInBounds_toArray, List.set_cons_zero, List.set_cons_succ]
      refine wpParts_det (by rfl) (fun W hE hN => ?_) ?_
      · have hc := fun b o h => hE.cell (p := ⟨b, o, none⟩) h
        go_simp; refine ⟨Below.refl _ _, ?_⟩; rfl
      simp only [Act.put, List.setIfInBounds_toArray, List.set_cons_zero, List.set_cons_succ]
      refine wpParts_det (by rfl) (fun W hE hN => ?_) ?_
      · go_simp; refine ⟨Below.refl _ _, ?_⟩; rfl
      simp only [Act.put, List.setIfInBounds_toArray, List.set_cons_zero, List.set_cons_succ]
      refine wpParts_det (by rfl) (fun W hE hN => ?_) ?_
      · have hc := fun b o h => hE.cell (p := ⟨b, o, none⟩) h
        go_simp; refine ⟨Below.refl _ _, ?_⟩; rfl
      simp only [Act.put, List.setIfInBounds_toArray, List.set_cons_zero, List.set_cons_succ]
      refine wpParts_det (by rfl) (fun W hE hN => ?_) ?_
      · go_simp; refine ⟨Below.refl _ _, ?_⟩; rfl
      simp only [Act.put, List.setIfInBounds_toArray, List.set_cons_zero, List.set_cons_succ]
      refine wpParts_det (by rfl) (fun W hE hN => ?_) ?_
      · go_simp; refine ⟨Below.refl _ _, ?_⟩; rfl
      simp only [Act.put, List.setIfInBounds_toArray, List.set_cons_zero, List.set_cons_succ]
      refine wpParts_skip ?_ ?_
      · rfl
      simp only [Act.put, List.setIfInBounds_toArray, List.set_cons_zero, List.set_cons_succ]
      refine wpParts_skip ?_ ?_
      · rfl
      simp only [Act.put, List.setIfInBounds_toArray, List.set_cons_zero, List.set_cons_succ]
      refine wpParts_skip ?_ ?_
      · rfl
      simp only [Act.put, List.setIfInBounds_toArray, List.set_cons_zero, List.set_cons_succ]
      refine wpParts_skip ?_ ?_
      · rfl
      simp only [Act.put, List.setIfInBounds_toArray, List.set_cons_zero, List.set_cons_succ]
      refine wpParts_skip ?_ ?_
      · rfl
      simp only [Act.put, List.setIfInBounds_toArray, List.set_cons_zero, List.set_cons_succ]
      refine wpParts_skip ?_ ?_
      · rfl
      simp only [Act.put, List.setIfInBounds_toArray, List.set_cons_zero, List.set_cons_succ]
      refine wpParts_det (by rfl) (fun W hE hN => ?_) ?_
      · go_simp; refine ⟨Below.refl _ _, ?_⟩; rfl
      simp only [Act.put, List.setIfInBounds_toArray, List.set_cons_zero, List.set_cons_succ]
      refine wpParts_det (by rfl) (fun W hE hN => ?_) ?_
      · go_simp; refine ⟨Below.refl _ _, ?_⟩; rfl
      simp only [Act.put, List.setIfInBounds_toArray, List.set_cons_zero, List.set_cons_succ]
      refine wpParts_end fun W1 hE1 hG1 => ?_
      have hcW1 := fun b o h => hE1.cell (p := ⟨b, o, none⟩) h
      have hfW1 := fun b o h => hE1.frozen (p := ⟨b, o, none⟩) h
      go_wp2
      all_goals (go_ret; refine ⟨ret_int ?_, (by repeat (first | (with_reducible exact Below.refl _ _) | (with_reducible exact Below.refl _ _) | (with_reducible refine Below.setCell ?_ (by first | omega | (simp; done) | (simp; omega)) _) | (with_reducible refine Below.alloc ?_ (by first | omega | (simp; done) | (simp; omega)) _) | (with_reducible refine Below.drew ?_) | (with_reducible refine below_drewN ?_ _) | (with_reducible refine Below.trans ?_ (hE1.mono (by first | omega | (simp; done) | (simp; omega))))))⟩; have hb := Hb.out; cases b <;> simp_all [redE] <;> omega)

set_option maxRecDepth 4000 in
theorem Tryd_Check_2 (c n s l m : Int) (w : World) (h0 : 2 ≤ n) (h1 : n ≤ c) (h2 : c ≤ 1073741824) (hl : I64 l) (hm : I64 m) :
    Calls Tryd.prog 45 #[.agg #[.int .i64 c, .int .i64 n, .int .i64 (hi s), .int .u64 (lo s), .int .i64 l, .int .i64 m]] w fun e w' =>
      e = .returned (.int .i64 (redE (decide (l ≤ m) && (!aboveB (l + m + l * (n - 2)) s && !aboveB s (l + m + m * (n - 2)))))) ∧ Below w.heap.size w w' := by
  generalize hb : (decide (l ≤ m) && (!aboveB (l + m + l * (n - 2)) s && !aboveB s (l + m + m * (n - 2)))) = b
  have Hb := Lib.hid hb; clear hb
  have hn' : I64 n := by unfold I64; omega
  by_cases hlm : l ≤ m
  · go_enter Tryd.func45, Tryd.ntmps45
    go_wp2_with fail
    refine (Tryd_bounds _ _ _ _ _ _ h0 hn' hl hm).mono ?_; rintro e w1 ⟨rfl, hb1⟩; obtain ⟨hc1, hf1, hs1⟩ := after hb1
    simp at hs1
    have lt_w1_0_0 : w.heap.size < w1.heap.size := by omega
    have lt_w1_0_1 : w.heap.size < w1.heap.size + 1 := by omega
    have lt_w1_0_2 : w.heap.size < w1.heap.size + 1 + 1 := by omega
    generalize g1 : l + m + l * (n - 2) = x at *
    generalize g2 : l + m + m * (n - 2) = y at *
    clear g1 g2
    by_cases ha : aboveB x s = true
    · go_wp2_with fail
      refine' wp_region_seq [.inl _, .inl _, .inl _, .inl _, .inl _, .inl _, .inl _, .inl _, .inl _, .inl _, .inl _, .inl _, .inl _, .inl undef, .inl undef, .inl undef, .inl undef, .inl undef, .inl _, .inl _] (by kernel_rfl) (by kernel_rfl) ?main3
      case main3 =>
        refine wpParts_det (by rfl) (fun W hE hN => ?_) ?_
        · go_simp; refine ⟨Below.refl _ _, ?_⟩; rfl
        simp only [Act.put, List.setIfInBounds_toArray, List.set_cons_zero, List.set_cons_succ]
        refine wpParts_det (by rfl) (fun W hE hN => ?_) ?_
        · have hc := fun b o h => hE.cell (p := ⟨b, o, none⟩) h
          go_simp; refine ⟨Below.refl _ _, ?_⟩; rfl
        simp only [Act.put, List.setIfInBounds_toArray, List.set_cons_zero, List.set_cons_succ]
        refine wpParts_det (by rfl) (fun W hE hN => ?_) ?_
        · go_simp; refine ⟨Below.refl _ _, ?_⟩; rfl
        simp only [Act.put, List.setIfInBounds_toArray, List.set_cons_zero, List.set_cons_succ]
        refine wpParts_det (by rfl) (fun W hE hN => ?_) ?_
        · have hc := fun b o h => hE.cell (p := ⟨b, o, none⟩) h
          go_simp; refine ⟨Below.refl _ _, ?_⟩; rfl
        simp only [Act.put, List.setIfInBounds_toArray, List.set_cons_zero, List.set_cons_succ]
        refine wpParts_det (by rfl) (fun W hE hN => ?_) ?_
        · go_simp; refine ⟨Below.refl _ _, ?_⟩; rfl
        simp only [Act.put, List.setIfInBounds_toArray, List.set_cons_zero, List.set_cons_succ]
        refine wpParts_det (by rfl) (fun W hE hN => ?_) ?_
        · go_simp; refine ⟨Below.refl _ _, ?_⟩; rfl
        simp only [Act.put, List.setIfInBounds_toArray, List.set_cons_zero, List.set_cons_succ]
        refine wpParts_det (by rfl) (fun W hE hN => ?_) ?_
        · have hc := fun b o h => hE.cell (p := ⟨b, o, none⟩) h
          go_simp; refine ⟨Below.refl _ _, ?_⟩; rfl
        simp only [Act.put, List.setIfInBounds_toArray, List.set_cons_zero, List.set_cons_succ]
        refine wpParts_det (by rfl) (fun W hE hN => ?_) ?_
        · have hc := fun b o h => hE.cell (p := ⟨b, o, none⟩) h
          go_simp; refine ⟨Below.refl _ _, ?_⟩; rfl
        simp only [Act.put, List.setIfInBounds_toArray, List.set_cons_zero, List.set_cons_succ]
        refine wpParts_det (by rfl) (fun W hE hN => ?_) ?_
        · go_simp; refine ⟨Below.refl _ _, ?_⟩; refine (Tryd_total _ _ _ _ _ _).mono ?_; rintro e w' ⟨rfl, hb⟩; refine ⟨?_, hb⟩; rfl
        simp only [Act.put, List.setIfInBounds_toArray, List.set_cons_zero, List.set_cons_succ]
        refine wpParts_det (by rfl) (fun W hE hN => ?_) ?_
        · go_simp; refine ⟨Below.refl _ _, ?_⟩; refine (Tryd_above _ _ _).mono ?_; rintro e w' ⟨rfl, hb⟩; refine ⟨?_, hb⟩; rfl
        simp only [Act.put, List.setIfInBounds_toArray, List.set_cons_zero, List.set_cons_succ]
        refine wpParts_det (by rfl) (fun W hE hN => ?_) ?_
        · go_simp; refine ⟨Below.refl _ _, ?_⟩; rfl
        simp only [Act.put, List.setIfInBounds_toArray, List.set_cons_zero, List.set_cons_succ]
        refine wpParts_det (by rfl) (fun W hE hN => ?_) ?_
        · go_simp; refine ⟨Below.refl _ _, ?_⟩; rfl
        simp only [Act.put, List.setIfInBounds_toArray, List.set_cons_zero, List.set_cons_succ]
        refine wpParts_det (by rfl) (fun W hE hN => ?_) ?_
        · go_simp; refine ⟨Below.refl _ _, ?_⟩; rfl
        simp only [Act.put, List.setIfInBounds_toArray, List.set_cons_zero, List.set_cons_succ]
        refine wpParts_skip ?_ ?_
        · rfl
        simp only [Act.put, List.setIfInBounds_toArray, List.set_cons_zero, List.set_cons_succ]
        refine wpParts_skip ?_ ?_
        · rfl
        simp only [Act.put, List.setIfInBounds_toArray, List.set_cons_zero, List.set_cons_succ]
        refine wpParts_skip ?_ ?_
        · rfl
        simp only [Act.put, List.setIfInBounds_toArray, List.set_cons_zero, List.set_cons_succ]
        refine wpParts_skip ?_ ?_
        · rfl
        simp only [Act.put, List.setIfInBounds_toArray, List.set_cons_zero, List.set_cons_succ]
        refine wpParts_skip ?_ ?_
        · rfl
        simp only [Act.put, List.setIfInBounds_toArray, List.set_cons_zero, List.set_cons_succ]
        refine wpParts_det (by rfl) (fun W hE hN => ?_) ?_
        · go_simp; refine ⟨Below.refl _ _, ?_⟩; rfl
        simp only [Act.put, List.setIfInBounds_toArray, List.set_cons_zero, List.set_cons_succ]
        refine wpParts_det (by rfl) (fun W hE hN => ?_) ?_
        · go_simp; refine ⟨Below.refl _ _, ?_⟩; rfl
        simp only [Act.put, List.setIfInBounds_toArray, List.set_cons_zero, List.set_cons_succ]
        refine wpParts_end fun W2 hE2 hG2 => ?_
        have hcW2 := fun b o h => hE2.cell (p := ⟨b, o, none⟩) h
        have hfW2 := fun b o h => hE2.frozen (p := ⟨b, o, none⟩) h
        go_wp2
        all_goals (go_ret; refine ⟨ret_int ?_, (by repeat (first | (with_reducible exact Below.refl _ _) | (with_reducible exact Below.refl _ _) | (with_reducible refine Below.setCell ?_ (by first | omega | (simp; done) | (simp; omega)) _) | (with_reducible refine Below.alloc ?_ (by first | omega | (simp; done) | (simp; omega)) _) | (with_reducible refine Below.drew ?_) | (with_reducible refine below_drewN ?_ _) | (with_reducible refine Below.trans ?_ (hE2.mono (by first | omega | (simp; done) | (simp; omega)))) | (with_reducible refine Below.trans ?_ (hb1.mono (by first | omega | (simp; done) | (simp; omega))))))⟩; have hb := Hb.out; cases b <;> simp_all [redE] <;> omega)
    · have ha' : aboveB x s = false := by simpa using ha
      clear ha
      go_wp2_with fail
      refine' wp_region_seq [.inl _, .inl _, .inl _, .inl _, .inl _, .inl _, .inl _, .inl _, .inl _, .inl _, .inl _, .inl _, .inl _, .inl _, .inl _, .inl _, .inl _, .inl _, .inl _, .inl _] (by kernel_rfl) (by kernel_rfl) ?main4
      case main4 =>
        refine wpParts_det (by rfl) (fun W hE hN => ?_) ?_
        · go_simp; refine ⟨Below.refl _ _, ?_⟩; rfl
        simp only [Act.put, List.setIfInBounds_toArray, List.set_cons_zero, List.set_cons_succ]
        refine wpParts_det (by rfl) (fun W hE hN => ?_) ?_
        · have hc := fun b o h => hE.cell (p := ⟨b, o, none⟩) h
          go_simp; refine ⟨Below.refl _ _, ?_⟩; rfl
        simp only [Act.put, List.setIfInBounds_toArray, List.set_cons_zero, List.set_cons_succ]
        refine wpParts_det (by rfl) (fun W hE hN => ?_) ?_
        · go_simp; refine ⟨Below.refl _ _, ?_⟩; rfl
        simp only [Act.put, List.setIfInBounds_toArray, List.set_cons_zero, List.set_cons_succ]
        refine wpParts_det (by rfl) (fun W hE hN => ?_) ?_
        · have hc := fun b o h => hE.cell (p := ⟨b, o, none⟩) h
          go_simp; refine ⟨Below.refl _ _, ?_⟩; rfl
        simp only [Act.put, List.setIfInBounds_toArray, List.set_cons_zero, List.set_cons_succ]
        refine wpParts_det (by rfl) (fun W hE hN => ?_) ?_
        · go_simp; refine ⟨Below.refl _ _, ?_⟩; rfl
        simp only [Act.put, List.setIfInBounds_toArray, List.set_cons_zero, List.set_cons_succ]
        refine wpParts_det (by rfl) (fun W hE hN => ?_) ?_
        · go_simp; refine ⟨Below.refl _ _, ?_⟩; rfl
        simp only [Act.put, List.setIfInBounds_toArray, List.set_cons_zero, List.set_cons_succ]
        refine wpParts_det (by rfl) (fun W hE hN => ?_) ?_
        · have hc := fun b o h => hE.cell (p := ⟨b, o, none⟩) h
          go_simp; refine ⟨Below.refl _ _, ?_⟩; rfl
        simp only [Act.put, List.setIfInBounds_toArray, List.set_cons_zero, List.set_cons_succ]
        refine wpParts_det (by rfl) (fun W hE hN => ?_) ?_
        · have hc := fun b o h => hE.cell (p := ⟨b, o, none⟩) h
          go_simp; refine ⟨Below.refl _ _, ?_⟩; rfl
        simp only [Act.put, List.setIfInBounds_toArray, List.set_cons_zero, List.set_cons_succ]
        refine wpParts_det (by rfl) (fun W hE hN => ?_) ?_
        · go_simp; refine ⟨Below.refl _ _, ?_⟩; refine (Tryd_total _ _ _ _ _ _).mono ?_; rintro e w' ⟨rfl, hb⟩; refine ⟨?_, hb⟩; rfl
        simp only [Act.put, List.setIfInBounds_toArray, List.set_cons_zero, List.set_cons_succ]
        refine wpParts_det (by rfl) (fun W hE hN => ?_) ?_
        · go_simp; refine ⟨Below.refl _ _, ?_⟩; refine (Tryd_above _ _ _).mono ?_; rintro e w' ⟨rfl, hb⟩; refine ⟨?_, hb⟩; rfl
        simp only [Act.put, List.setIfInBounds_toArray, List.set_cons_zero, List.set_cons_succ]
        refine wpParts_det (by rfl) (fun W hE hN => ?_) ?_
        · go_simp; refine ⟨Below.refl _ _, ?_⟩; rfl
        simp only [Act.put, List.setIfInBounds_toArray, List.set_cons_zero, List.set_cons_succ]
        refine wpParts_det (by rfl) (fun W hE hN => ?_) ?_
        · go_simp; refine ⟨Below.refl _ _, ?_⟩; rfl
        simp only [Act.put, List.setIfInBounds_toArray, List.set_cons_zero, List.set_cons_succ]
        refine wpParts_det (by rfl) (fun W hE hN => ?_) ?_
        · go_simp; refine ⟨Below.refl _ _, ?_⟩; rfl
        simp only [Act.put, List.setIfInBounds_toArray, List.set_cons_zero, List.set_cons_succ]
        refine wpParts_det (by rfl) (fun W hE hN => ?_) ?_
        · have hc := fun b o h => hE.cell (p := ⟨b, o, none⟩) h
          go_simp; refine ⟨Below.refl _ _, ?_⟩; rfl
        simp only [Act.put, List.setIfInBounds_toArray, List.set_cons_zero, List.set_cons_succ]
        refine wpParts_det (by rfl) (fun W hE hN => ?_) ?_
        · go_simp; refine ⟨Below.refl _ _, ?_⟩; refine (Tryd_total _ _ _ _ _ _).mono ?_; rintro e w' ⟨rfl, hb⟩; refine ⟨?_, hb⟩; rfl
        simp only [Act.put, List.setIfInBounds_toArray, List.set_cons_zero, List.set_cons_succ]
        refine wpParts_det (by rfl) (fun W hE hN => ?_) ?_
        · have hc := fun b o h => hE.cell (p := ⟨b, o, none⟩) h
          go_simp; refine ⟨Below.refl _ _, ?_⟩; rfl
        simp only [Act.put, List.setIfInBounds_toArray, List.set_cons_zero, List.set_cons_succ]
        refine wpParts_det (by rfl) (fun W hE hN => ?_) ?_
        · go_simp; refine ⟨Below.refl _ _, ?_⟩; refine (Tryd_above _ _ _).mono ?_; rintro e w' ⟨rfl, hb⟩; refine ⟨?_, hb⟩; rfl
        simp only [Act.put, List.setIfInBounds_toArray, List.set_cons_zero, List.set_cons_succ]
        refine wpParts_det (by rfl) (fun W hE hN => ?_) ?_
        · go_simp; refine ⟨Below.refl _ _, ?_⟩; rfl
        simp only [Act.put, List.setIfInBounds_toArray, List.set_cons_zero, List.set_cons_succ]
        refine wpParts_det (by rfl) (fun W hE hN => ?_) ?_
        · go_simp; refine ⟨Below.refl _ _, ?_⟩; rfl
        simp only [Act.put, List.setIfInBounds_toArray, List.set_cons_zero, List.set_cons_succ]
        refine wpParts_det (by rfl) (fun W hE hN => ?_) ?_
        · go_simp; refine ⟨Below.refl _ _, ?_⟩; rfl
        simp only [Act.put, List.setIfInBounds_toArray, List.set_cons_zero, List.set_cons_succ]
        refine wpParts_end fun W2 hE2 hG2 => ?_
        have hcW2 := fun b o h => hE2.cell (p := ⟨b, o, none⟩) h
        have hfW2 := fun b o h => hE2.frozen (p := ⟨b, o, none⟩) h
        go_wp2
        all_goals (go_ret; refine ⟨ret_int ?_, (by repeat (first | (with_reducible exact Below.refl _ _) | (with_reducible exact Below.refl _ _) | (with_reducible refine Below.setCell ?_ (by first | omega | (simp; done) | (simp; omega)) _) | (with_reducible refine Below.alloc ?_ (by first | omega | (simp; done) | (simp; omega)) _) | (with_reducible refine Below.drew ?_) | (with_reducible refine below_drewN ?_ _) | (with_reducible refine Below.trans ?_ (hE2.mono (by first | omega | (simp; done) | (simp; omega)))) | (with_reducible refine Below.trans ?_ (hb1.mono (by first | omega | (simp; done) | (simp; omega))))))⟩; have hb := Hb.out; cases b <;> simp_all [redE] <;> omega)
  · have hd : decide (l ≤ m) = false := by simpa using hlm
    go_enter Tryd.func45, Tryd.ntmps45
    go_wp2_with fail
    refine (Tryd_bounds _ _ _ _ _ _ h0 hn' hl hm).mono ?_; rintro e w1 ⟨rfl, hb1⟩; obtain ⟨hc1, hf1, hs1⟩ := after hb1
    simp at hs1
    have lt_w1_0_0 : w.heap.size < w1.heap.size := by omega
    have lt_w1_0_1 : w.heap.size < w1.heap.size + 1 := by omega
    have lt_w1_0_2 : w.heap.size < w1.heap.size + 1 + 1 := by omega
    generalize g1 : l + m + l * (n - 2) = x at *
    generalize g2 : l + m + m * (n - 2) = y at *
    clear g1 g2
    go_wp2_with fail
    refine' wp_region_seq [.inl _, .inl _, .inl _, .inl _, .inl _, .inl _, .inl undef, .inl undef, .inl undef, .inl undef, .inl undef, .inl _, .inl _, .inl undef, .inl undef, .inl undef, .inl undef, .inl undef, .inl _, .inl _] (by kernel_rfl) (by kernel_rfl) ?main5
    case main5 =>
      refine wpParts_det (by rfl) (fun W hE hN => ?_) ?_
      · go_simp; refine ⟨Below.refl _ _, ?_⟩; rfl
      simp only [Act.put, List.setIfInBounds_toArray, List.set_cons_zero, List.set_cons_succ]
      refine wpParts_det (by rfl) (fun W hE hN => ?_) ?_
      · have hc := fun b o h => hE.cell (p := ⟨b, o, none⟩) h
        go_simp; refine ⟨Below.refl _ _, ?_⟩; rfl
      simp only [Act.put, List.setIfInBounds_toArray, List.set_cons_zero, List.set_cons_succ]
      refine wpParts_det (by rfl) (fun W hE hN => ?_) ?_
      · go_simp; refine ⟨Below.refl _ _, ?_⟩; rfl
      simp only [Act.put, List.setIfInBounds_toArray, List.set_cons_zero, List.set_cons_succ]
      refine wpParts_det (by rfl) (fun W hE hN => ?_) ?_
      · have hc := fun b o h => hE.cell (p := ⟨b, o, none⟩) h
        go_simp; refine ⟨Below.refl _ _, ?_⟩; rfl
      simp only [Act.put, List.setIfInBounds_toArray, List.set_cons_zero, List.set_cons_succ]
      refine wpParts_det (by rfl) (fun W hE hN => ?_) ?_
      · go_simp; refine ⟨Below.refl _ _, ?_⟩; rfl
      simp only [Act.put, List.setIfInBounds_toArray, List.set_cons_zero, List.set_cons_succ]
      refine wpParts_det (by rfl) (fun W hE hN => ?_) ?_
      · go_simp; refine ⟨Below.refl _ _, ?_⟩; rfl
      simp only [Act.put, List.setIfInBounds_toArray, List.set_cons_zero, List.set_cons_succ]
      refine wpParts_skip ?_ ?_
      · rfl
      simp only [Act.put, List.setIfInBounds_toArray, List.set_cons_zero, List.set_cons_succ]
      refine wpParts_skip ?_ ?_
      · rfl
      simp only [Act.put, List.setIfInBounds_toArray, List.set_cons_zero, List.set_cons_succ]
      refine wpParts_skip ?_ ?_
      · rfl
      simp only [Act.put, List.setIfInBounds_toArray, List.set_cons_zero, List.set_cons_succ]
      refine wpParts_skip ?_ ?_
      · rfl
      simp only [Act.put, List.setIfInBounds_toArray, List.set_cons_zero, List.set_cons_succ]
      refine wpParts_skip ?_ ?_
      · rfl
      simp only [Act.put, List.setIfInBounds_toArray, List.set_cons_zero, List.set_cons_succ]
      refine wpParts_det (by rfl) (fun W hE hN => ?_) ?_
      · go_simp; refine ⟨Below.refl _ _, ?_⟩; rfl
      simp only [Act.put, List.setIfInBounds_toArray, List.set_cons_zero, List.set_cons_succ]
      refine wpParts_det (by rfl) (fun W hE hN => ?_) ?_
      · go_simp; refine ⟨Below.refl _ _, ?_⟩; rfl
      simp only [Act.put, List.setIfInBounds_toArray, List.set_cons_zero, List.set_cons_succ]
      refine wpParts_skip ?_ ?_
      · rfl
      simp only [Act.put, List.setIfInBounds_toArray, List.set_cons_zero, List.set_cons_succ]
      refine wpParts_skip ?_ ?_
      · rfl
      simp only [Act.put, List.setIfInBounds_toArray, List.set_cons_zero, List.set_cons_succ]
      refine wpParts_skip ?_ ?_
      · rfl
      simp only [Act.put, List.setIfInBounds_toArray, List.set_cons_zero, List.set_cons_succ]
      refine wpParts_skip ?_ ?_
      · rfl
      simp only [Act.put, List.setIfInBounds_toArray, List.set_cons_zero, List.set_cons_succ]
      refine wpParts_skip ?_ ?_
      · rfl
      simp only [Act.put, List.setIfInBounds_toArray, List.set_cons_zero, List.set_cons_succ]
      refine wpParts_det (by rfl) (fun W hE hN => ?_) ?_
      · go_simp; refine ⟨Below.refl _ _, ?_⟩; rfl
      simp only [Act.put, List.setIfInBounds_toArray, List.set_cons_zero, List.set_cons_succ]
      refine wpParts_det (by rfl) (fun W hE hN => ?_) ?_
      · go_simp; refine ⟨Below.refl _ _, ?_⟩; rfl
      simp only [Act.put, List.setIfInBounds_toArray, List.set_cons_zero, List.set_cons_succ]
      refine wpParts_end fun W2 hE2 hG2 => ?_
      have hcW2 := fun b o h => hE2.cell (p := ⟨b, o, none⟩) h
      have hfW2 := fun b o h => hE2.frozen (p := ⟨b, o, none⟩) h
      go_wp2
      all_goals (go_ret; refine ⟨ret_int ?_, (by repeat (first | (with_reducible exact Below.refl _ _) | (with_reducible exact Below.refl _ _) | (with_reducible refine Below.setCell ?_ (by first | omega | (simp; done) | (simp; omega)) _) | (with_reducible refine Below.alloc ?_ (by first | omega | (simp; done) | (simp; omega)) _) | (with_reducible refine Below.drew ?_) | (with_reducible refine below_drewN ?_ _) | (with_reducible refine Below.trans ?_ (hE2.mono (by first | omega | (simp; done) | (simp; omega)))) | (with_reducible refine Below.trans ?_ (hb1.mono (by first | omega | (simp; done) | (simp; omega))))))⟩; have hb := Hb.out; cases b <;> simp_all [redE] <;> omega)
end Go.Proofs.YtmcmknndhppljaaDoor

namespace Go.Proofs.YtmcmknndhppljaaDoor
set_option linter.unusedVariables false
set_option linter.unusedSimpArgs false
open Go.RowKit Go.Dav
attribute [local go_sem] Gives ite_val ite_val_true

end Go.Proofs.YtmcmknndhppljaaDoor

namespace Go.Proofs.YtmcmknndhppljaaDoor
set_option linter.unusedVariables false
set_option linter.unusedSimpArgs false
open Go.RowKit Go.Dav
attribute [local go_sem] Gives ite_val ite_val_true

end Go.Proofs.YtmcmknndhppljaaDoor

namespace Go.Proofs.YtmcmknndhppljaaDoor
set_option linter.unusedVariables false
set_option linter.unusedSimpArgs false
open Go.RowKit Go.Dav

theorem Tryd_mCheck (r : Red) (w : World) (hl : I64 r.l) (hm : I64 r.m) :
    Calls Tryd.prog 45 #[.agg #[.int .i64 r.c, .int .i64 r.n, .int .i64 (hi r.s), .int .u64 (lo r.s), .int .i64 r.l, .int .i64 r.m]] w fun e w' =>
      e = .returned (.int .i64 (redE r.ok)) ∧ Below w.heap.size w w' := by
  unfold Red.ok redB
  by_cases h : r.n < 0 ∨ r.c < r.n ∨ 1073741824 < r.c
  · rw [if_pos h]; exact Tryd_Check_bad _ _ _ _ _ _ h
  rw [if_neg h]
  by_cases h0 : r.n = 0
  · rw [if_pos h0, h0]; exact Tryd_Check_0 _ _ _ _ _ (by omega) (by omega)
  rw [if_neg h0]
  by_cases h1 : r.n = 1
  · rw [if_pos h1, h1]; exact Tryd_Check_1 _ _ _ _ _ (by omega) (by omega) hl
  rw [if_neg h1]
  exact Tryd_Check_2 _ _ _ _ _ _ (by omega) (by omega) (by omega) hl hm

end Go.Proofs.YtmcmknndhppljaaDoor

namespace Go.Proofs.YtmcmknndhppljaaDoor
set_option linter.unusedVariables false
set_option linter.unusedSimpArgs false
open Go.RowKit Go.Dav
attribute [local go_sem] Gives ite_val ite_val_true

theorem Tryd_One_no (k v : Value) (x : Int) (w : World) (hk : k.cells = #[k]) (hv : v.cells = #[v]) :
    Calls Tryd.prog 44 #[.agg #[k, v, .bool false, .int .i64 x]] w fun e w' =>
      e = .returned (.agg #[.int .i64 1, .int .i64 0, .int .i64 (hi 0), .int .u64 (lo 0), .int .i64 0, .int .i64 0]) ∧ Below w.heap.size w w' := by
  have Hk := Lib.hid hk; clear hk
  have Hv := Lib.hid hv; clear hv
  go_enter Tryd.func44, Tryd.ntmps44
  go_wp2
  refine bodyPost_ret (v := .agg #[.int .i64 1, .int .i64 0, .int .i64 0, .int .u64 0, .int .i64 0, .int .i64 0]) (by simp [results, Tryd.results44, go_sem]) rfl ⟨by rw [hi_zero, lo_zero], ?_⟩
  exact (by repeat (first | (with_reducible exact Below.refl _ _) | (with_reducible exact Below.refl _ _) | (with_reducible refine Below.setCell ?_ (by first | omega | (simp; done) | (simp; omega)) _) | (with_reducible refine Below.alloc ?_ (by first | omega | (simp; done) | (simp; omega)) _) | (with_reducible refine Below.drew ?_) | (with_reducible refine below_drewN ?_ _)))

theorem Tryd_One_yes (k v : Value) (x : Int) (w : World) (hx : I64 x) :
    Calls Tryd.prog 44 #[.agg #[k, v, .bool true, .int .i64 x]] w fun e w' =>
      e = .returned (.agg #[.int .i64 1, .int .i64 1, .int .i64 (hi x), .int .u64 (lo x), .int .i64 x, .int .i64 x]) ∧ Below w.heap.size w w' := by
  go_enter Tryd.func44, Tryd.ntmps44
  go_wp2_with fail
  refine' wp_region_seq [.inl _, .inl _, .inl _, .inl _, .inl _, .inl _, .inl _, .inl _, .inl _] (by kernel_rfl) (by kernel_rfl) ?main1
  case main1 =>
    refine wpParts_det (by rfl) (fun W hE hN => ?_) ?_
    · go_simp; refine ⟨Below.refl _ _, ?_⟩; rfl
    simp only [Act.put, List.setIfInBounds_toArray, List.set_cons_zero, List.set_cons_succ]
    refine wpParts_det (by rfl) (fun W hE hN => ?_) ?_
    · have hc := fun b o h => hE.cell (p := ⟨b, o, none⟩) h
      go_simp; refine ⟨Below.refl _ _, ?_⟩; rfl
    simp only [Act.put, List.setIfInBounds_toArray, List.set_cons_zero, List.set_cons_succ]
    refine wpParts_det (by rfl) (fun W hE hN => ?_) ?_
    · go_simp; refine ⟨Below.refl _ _, ?_⟩; rfl
    simp only [Act.put, List.setIfInBounds_toArray, List.set_cons_zero, List.set_cons_succ]
    refine wpParts_det (by rfl) (fun W hE hN => ?_) ?_
    · have hc := fun b o h => hE.cell (p := ⟨b, o, none⟩) h
      go_simp; refine ⟨Below.refl _ _, ?_⟩; rfl
    simp only [Act.put, List.setIfInBounds_toArray, List.set_cons_zero, List.set_cons_succ]
    refine wpParts_det (by rfl) (fun W hE hN => ?_) ?_
    · go_simp; refine ⟨Below.refl _ _, ?_⟩; rfl
    simp only [Act.put, List.setIfInBounds_toArray, List.set_cons_zero, List.set_cons_succ]
    refine wpParts_det (by rfl) (fun W hE hN => ?_) ?_
    · go_simp; refine ⟨Below.refl _ _, ?_⟩; rfl
    simp only [Act.put, List.setIfInBounds_toArray, List.set_cons_zero, List.set_cons_succ]
    refine wpParts_det (by rfl) (fun W hE hN => ?_) ?_
    · have hc := fun b o h => hE.cell (p := ⟨b, o, none⟩) h
      go_simp; refine ⟨Below.refl _ _, ?_⟩; rfl
    simp only [Act.put, List.setIfInBounds_toArray, List.set_cons_zero, List.set_cons_succ]
    refine wpParts_det (by rfl) (fun W hE hN => ?_) ?_
    · go_simp; refine ⟨Below.refl _ _, ?_⟩; refine (Tryd_of _ _ hx).mono ?_; rintro e w' ⟨rfl, hb⟩; refine ⟨?_, hb⟩; rfl
    simp only [Act.put, List.setIfInBounds_toArray, List.set_cons_zero, List.set_cons_succ]
    refine wpParts_det (by rfl) (fun W hE hN => ?_) ?_
    · go_simp; refine ⟨Below.refl _ _, ?_⟩; refine (Tryd_with _ _ _ _ _ _ _ _).mono ?_; rintro e w' ⟨rfl, hb⟩; refine ⟨?_, hb⟩; rfl
    simp only [Act.put, List.setIfInBounds_toArray, List.set_cons_zero, List.set_cons_succ]
    refine wpParts_end fun W1 hE1 hG1 => ?_
    have hcW1 := fun b o h => hE1.cell (p := ⟨b, o, none⟩) h
    have hfW1 := fun b o h => hE1.frozen (p := ⟨b, o, none⟩) h
    have s1 := hE1.size
    simp at s1
    have lt_W1_0_0 : w.heap.size < W1.heap.size := by omega
    have lt_W1_1_0 : w.heap.size + 1 < W1.heap.size := by omega
    go_wp2
    refine bodyPost_ret (v := .agg #[.int .i64 1, .int .i64 1, .int .i64 (hi x), .int .u64 (lo x), .int .i64 x, .int .i64 x]) (by simp [results, Tryd.results44, go_sem, *]) rfl ⟨rfl, ?_⟩
    exact (by repeat (first | (with_reducible exact Below.refl _ _) | (with_reducible exact Below.refl _ _) | (with_reducible refine Below.setCell ?_ (by first | omega | (simp; done) | (simp; omega)) _) | (with_reducible refine Below.alloc ?_ (by first | omega | (simp; done) | (simp; omega)) _) | (with_reducible refine Below.drew ?_) | (with_reducible refine below_drewN ?_ _) | (with_reducible refine Below.trans ?_ (hE1.mono (by first | omega | (simp; done) | (simp; omega))))))

set_option maxRecDepth 4000 in
set_option maxHeartbeats 4000000 in
theorem Tryd_both (c1 n1 s1 l1 m1 c2 n2 s2 l2 m2 : Int) (w : World) (h1 : 0 ≤ n1) (h2 : 0 ≤ n2) (hc : IntKind.i64.wrap (c1 + c2) = c1 + c2) (hn : IntKind.i64.wrap (n1 + n2) = n1 + n2) :
    Calls Tryd.prog 47 #[.agg #[.int .i64 c1, .int .i64 n1, .int .i64 (hi s1), .int .u64 (lo s1), .int .i64 l1, .int .i64 m1], .agg #[.int .i64 c2, .int .i64 n2, .int .i64 (hi s2), .int .u64 (lo s2), .int .i64 l2, .int .i64 m2]] w fun e w' =>
      e = .returned (.agg #[.int .i64 (c1 + c2), .int .i64 (bothN n1 n2), .int .i64 (hi (bothS n2 s1 s2)), .int .u64 (lo (bothS n2 s1 s2)), .int .i64 (bothL n1 n2 l1 l2), .int .i64 (bothM n1 n2 m1 m2)]) ∧ Below w.heap.size w w' := by
  by_cases hz : n2 = 0
  · subst hz
    have Hn := Lib.hid hn; clear hn
    have e1 : bothN n1 0 = n1 := rfl
    have e2 : bothS 0 s1 s2 = s1 := rfl
    have e3 : bothL n1 0 l1 l2 = l1 := rfl
    have e4 : bothM n1 0 m1 m2 = m1 := rfl
    rw [e1, e2, e3, e4]
    clear e1 e2 e3 e4
    go_enter Tryd.func47, Tryd.ntmps47
    go_wp2
    refine bodyPost_ret (v := .agg #[.int .i64 (c1 + c2), .int .i64 n1, .int .i64 (hi s1), .int .u64 (lo s1), .int .i64 l1, .int .i64 m1]) (by simp [results, Tryd.results47, go_sem]) rfl ⟨rfl, ?_⟩
    exact (by repeat (first | (with_reducible exact Below.refl _ _) | (with_reducible exact Below.refl _ _) | (with_reducible refine Below.setCell ?_ (by first | omega | (simp; done) | (simp; omega)) _) | (with_reducible refine Below.alloc ?_ (by first | omega | (simp; done) | (simp; omega)) _) | (with_reducible refine Below.drew ?_) | (with_reducible refine below_drewN ?_ _)))
  · have hz' : (n2 == 0) = false := by simpa using hz
    by_cases hp : 0 < n1
    · have e1 : bothN n1 n2 = n1 + n2 := if_neg hz
      have e2 : bothS n2 s1 s2 = s1 + s2 := if_neg hz
      have e3 : bothL n1 n2 l1 l2 = min l1 l2 := by unfold bothL; rw [if_neg hz, if_pos hp]
      have e4 : bothM n1 n2 m1 m2 = max m1 m2 := by unfold bothM; rw [if_neg hz, if_pos hp]
      rw [e1, e2, e3, e4]
      clear e1 e2 e3 e4
      go_enter Tryd.func47, Tryd.ntmps47
      go_wp2
      go_region
      go_wp2_with fail
      all_goals
        refine' wp_region_seq [.inl _, .inl _, .inl _, .inl _, .inl _, .inl _, .inl _] (by kernel_rfl) (by kernel_rfl) ?main2
        case main2 =>
          refine wpParts_det (by rfl) (fun W hE hN => ?_) ?_
          · have hc := fun b o h => hE.cell (p := ⟨b, o, none⟩) h
            go_simp; refine ⟨Below.refl _ _, ?_⟩; rfl
          simp only [Act.put, List.setIfInBounds_toArray, List.set_cons_zero, List.set_cons_succ]
          refine wpParts_det (by rfl) (fun W hE hN => ?_) ?_
          · have hc := fun b o h => hE.cell (p := ⟨b, o, none⟩) h
            go_simp; refine ⟨Below.refl _ _, ?_⟩; rfl
          simp only [Act.put, List.setIfInBounds_toArray, List.set_cons_zero, List.set_cons_succ]
          refine wpParts_det (by rfl) (fun W hE hN => ?_) ?_
          · go_simp; refine ⟨Below.refl _ _, ?_⟩; refine (Tryd_total _ _ _ _ _ _).mono ?_; rintro e w' ⟨rfl, hb⟩; refine ⟨?_, hb⟩; rfl
          simp only [Act.put, List.setIfInBounds_toArray, List.set_cons_zero, List.set_cons_succ]
          refine wpParts_det (by rfl) (fun W hE hN => ?_) ?_
          · have hc := fun b o h => hE.cell (p := ⟨b, o, none⟩) h
            go_simp; refine ⟨Below.refl _ _, ?_⟩; rfl
          simp only [Act.put, List.setIfInBounds_toArray, List.set_cons_zero, List.set_cons_succ]
          refine wpParts_det (by rfl) (fun W hE hN => ?_) ?_
          · go_simp; refine ⟨Below.refl _ _, ?_⟩; refine (Tryd_total _ _ _ _ _ _).mono ?_; rintro e w' ⟨rfl, hb⟩; refine ⟨?_, hb⟩; rfl
          simp only [Act.put, List.setIfInBounds_toArray, List.set_cons_zero, List.set_cons_succ]
          refine wpParts_det (by rfl) (fun W hE hN => ?_) ?_
          · go_simp; refine ⟨Below.refl _ _, ?_⟩; refine (Tryd_plus _ _ _).mono ?_; rintro e w' ⟨rfl, hb⟩; refine ⟨?_, hb⟩; rfl
          simp only [Act.put, List.setIfInBounds_toArray, List.set_cons_zero, List.set_cons_succ]
          refine wpParts_det (by rfl) (fun W hE hN => ?_) ?_
          · go_simp; refine ⟨Below.refl _ _, ?_⟩; refine (Tryd_with _ _ _ _ _ _ _ _).mono ?_; rintro e w' ⟨rfl, hb⟩; refine ⟨?_, hb⟩; rfl
          simp only [Act.put, List.setIfInBounds_toArray, List.set_cons_zero, List.set_cons_succ]
          refine wpParts_end fun W1 hE1 hG1 => ?_
          have hcW1 := fun b o h => hE1.cell (p := ⟨b, o, none⟩) h
          have hfW1 := fun b o h => hE1.frozen (p := ⟨b, o, none⟩) h
          have s1' := hE1.size
          simp at s1'
          have lt_W1_0_0 : w.heap.size < W1.heap.size := by omega
          have lt_W1_1_0 : w.heap.size + 1 < W1.heap.size := by omega
          have lt_W1_2_0 : w.heap.size + 1 + 1 < W1.heap.size := by omega
          have lt_W1_3_0 : w.heap.size + 1 + 1 + 1 < W1.heap.size := by omega
          go_wp2
          refine bodyPost_ret (v := .agg #[.int .i64 (c1 + c2), .int .i64 (n1 + n2), .int .i64 (hi (s1 + s2)), .int .u64 (lo (s1 + s2)), .int .i64 (min l1 l2), .int .i64 (max m1 m2)]) (by simp [results, Tryd.results47, go_sem, hcW1, lt_W1_2_0] <;> omega) rfl ⟨rfl, ?_⟩
          exact (by repeat (first | (with_reducible exact Below.refl _ _) | (with_reducible exact Below.refl _ _) | (with_reducible refine Below.setCell ?_ (by first | omega | (simp; done) | (simp; omega)) _) | (with_reducible refine Below.alloc ?_ (by first | omega | (simp; done) | (simp; omega)) _) | (with_reducible refine Below.drew ?_) | (with_reducible refine below_drewN ?_ _) | (with_reducible refine Below.trans ?_ (hE1.mono (by first | omega | (simp; done) | (simp; omega))))))
    · have e1 : bothN n1 n2 = n1 + n2 := if_neg hz
      have e2 : bothS n2 s1 s2 = s1 + s2 := if_neg hz
      have e3 : bothL n1 n2 l1 l2 = l2 := by unfold bothL; rw [if_neg hz, if_neg hp]
      have e4 : bothM n1 n2 m1 m2 = m2 := by unfold bothM; rw [if_neg hz, if_neg hp]
      rw [e1, e2, e3, e4]
      clear e1 e2 e3 e4
      go_enter Tryd.func47, Tryd.ntmps47
      all_goals
        go_wp2_with fail
        refine' wp_region_seq [.inl _, .inl _, .inl _, .inl _, .inl _, .inl _, .inl _] (by kernel_rfl) (by kernel_rfl) ?main3
        case main3 =>
          refine wpParts_det (by rfl) (fun W hE hN => ?_) ?_
          · have hc := fun b o h => hE.cell (p := ⟨b, o, none⟩) h
            go_simp; refine ⟨Below.refl _ _, ?_⟩; rfl
          simp only [Act.put, List.setIfInBounds_toArray, List.set_cons_zero, List.set_cons_succ]
          refine wpParts_det (by rfl) (fun W hE hN => ?_) ?_
          · have hc := fun b o h => hE.cell (p := ⟨b, o, none⟩) h
            go_simp; refine ⟨Below.refl _ _, ?_⟩; rfl
          simp only [Act.put, List.setIfInBounds_toArray, List.set_cons_zero, List.set_cons_succ]
          refine wpParts_det (by rfl) (fun W hE hN => ?_) ?_
          · go_simp; refine ⟨Below.refl _ _, ?_⟩; refine (Tryd_total _ _ _ _ _ _).mono ?_; rintro e w' ⟨rfl, hb⟩; refine ⟨?_, hb⟩; rfl
          simp only [Act.put, List.setIfInBounds_toArray, List.set_cons_zero, List.set_cons_succ]
          refine wpParts_det (by rfl) (fun W hE hN => ?_) ?_
          · have hc := fun b o h => hE.cell (p := ⟨b, o, none⟩) h
            go_simp; refine ⟨Below.refl _ _, ?_⟩; rfl
          simp only [Act.put, List.setIfInBounds_toArray, List.set_cons_zero, List.set_cons_succ]
          refine wpParts_det (by rfl) (fun W hE hN => ?_) ?_
          · go_simp; refine ⟨Below.refl _ _, ?_⟩; refine (Tryd_total _ _ _ _ _ _).mono ?_; rintro e w' ⟨rfl, hb⟩; refine ⟨?_, hb⟩; rfl
          simp only [Act.put, List.setIfInBounds_toArray, List.set_cons_zero, List.set_cons_succ]
          refine wpParts_det (by rfl) (fun W hE hN => ?_) ?_
          · go_simp; refine ⟨Below.refl _ _, ?_⟩; refine (Tryd_plus _ _ _).mono ?_; rintro e w' ⟨rfl, hb⟩; refine ⟨?_, hb⟩; rfl
          simp only [Act.put, List.setIfInBounds_toArray, List.set_cons_zero, List.set_cons_succ]
          refine wpParts_det (by rfl) (fun W hE hN => ?_) ?_
          · go_simp; refine ⟨Below.refl _ _, ?_⟩; refine (Tryd_with _ _ _ _ _ _ _ _).mono ?_; rintro e w' ⟨rfl, hb⟩; refine ⟨?_, hb⟩; rfl
          simp only [Act.put, List.setIfInBounds_toArray, List.set_cons_zero, List.set_cons_succ]
          refine wpParts_end fun W1 hE1 hG1 => ?_
          have hcW1 := fun b o h => hE1.cell (p := ⟨b, o, none⟩) h
          have hfW1 := fun b o h => hE1.frozen (p := ⟨b, o, none⟩) h
          have s1' := hE1.size
          simp at s1'
          have lt_W1_0_0 : w.heap.size < W1.heap.size := by omega
          have lt_W1_1_0 : w.heap.size + 1 < W1.heap.size := by omega
          have lt_W1_2_0 : w.heap.size + 1 + 1 < W1.heap.size := by omega
          have lt_W1_3_0 : w.heap.size + 1 + 1 + 1 < W1.heap.size := by omega
          go_wp2
          refine bodyPost_ret (v := .agg #[.int .i64 (c1 + c2), .int .i64 (n1 + n2), .int .i64 (hi (s1 + s2)), .int .u64 (lo (s1 + s2)), .int .i64 l2, .int .i64 m2]) (by simp [results, Tryd.results47, go_sem, hcW1, lt_W1_2_0]) rfl ⟨rfl, ?_⟩
          exact (by repeat (first | (with_reducible exact Below.refl _ _) | (with_reducible exact Below.refl _ _) | (with_reducible refine Below.setCell ?_ (by first | omega | (simp; done) | (simp; omega)) _) | (with_reducible refine Below.alloc ?_ (by first | omega | (simp; done) | (simp; omega)) _) | (with_reducible refine Below.drew ?_) | (with_reducible refine below_drewN ?_ _) | (with_reducible refine Below.trans ?_ (hE1.mono (by first | omega | (simp; done) | (simp; omega))))))
end Go.Proofs.YtmcmknndhppljaaDoor

namespace Go.Proofs.YtmcmknndhppljaaDoor
set_option linter.unusedVariables false
set_option linter.unusedSimpArgs false
open Go.RowKit Go.Dav
attribute [local go_sem] Gives ite_val ite_val_true

theorem Tryd_in (n : Int) (w : World) :
    Calls Tryd.prog 90 #[.int .i64 n] w fun e w' => e = .returned (.agg #[.int .i64 3, .int .i64 n, .string ⟨#[]⟩, .slice none 0 0, .slice none 0 0]) ∧ Below w.heap.size w w' := by
  go_enter Tryd.func90, Tryd.ntmps90
  go_wp2
  refine bodyPost_ret (v := .agg #[.int .i64 3, .int .i64 n, .string ⟨#[]⟩, .slice none 0 0, .slice none 0 0]) (by simp [results, Tryd.results90, go_sem]) rfl ⟨rfl, ?_⟩
  exact (by repeat (first | (with_reducible exact Below.refl _ _) | (with_reducible exact Below.refl _ _) | (with_reducible refine Below.setCell ?_ (by first | omega | (simp; done) | (simp; omega)) _) | (with_reducible refine Below.alloc ?_ (by first | omega | (simp; done) | (simp; omega)) _) | (with_reducible refine Below.drew ?_) | (with_reducible refine below_drewN ?_ _)))

/-- The table of what is told: names, and functions. -/
def TrydTold : List Value := [.string ⟨#[]⟩, .nilFunc, .string ⟨#[95, 99, 111, 117, 110, 116]⟩, .func (.func 85) #[] #[], .string ⟨#[95, 115, 117, 109]⟩, .func (.func 86) #[] #[],
  .string ⟨#[95, 109, 105, 110]⟩, .func (.func 87) #[] #[], .string ⟨#[95, 109, 97, 120]⟩, .func (.func 89) #[] #[]]
def TrydStats : List Value := [.string ⟨#[95, 115, 116, 97, 116, 115]⟩, .func (.func 72) #[] #[]]

set_option maxRecDepth 8000 in
set_option maxHeartbeats 2000000 in
theorem Tryd_simple (w : World) :
    Calls Tryd.prog 71 #[] w fun e w' => e = .returned (.agg TrydTold.toArray) ∧ Below w.heap.size w w' := by
  go_enter Tryd.func71, Tryd.ntmps71
  go_wp2
  refine bodyPost_ret (v := .agg TrydTold.toArray) (by simp [results, Tryd.results71, go_sem, TrydTold]) rfl ⟨rfl, ?_⟩
  exact (by repeat (first | (with_reducible exact Below.refl _ _) | (with_reducible exact Below.refl _ _) | (with_reducible refine Below.setCell ?_ (by first | omega | (simp; done) | (simp; omega)) _) | (with_reducible refine Below.alloc ?_ (by first | omega | (simp; done) | (simp; omega)) _) | (with_reducible refine Below.drew ?_) | (with_reducible refine below_drewN ?_ _)))

theorem Tryd_info84 : (Tryd.prog.info? 85).map (fun i => (i.zero, i.size, i.bytes)) = some (some (.agg #[.string ⟨#[]⟩, .nilFunc]), 2, 24) := by kernel_rfl

/-- A row of cells in a new block. -/
def TrydKinds (B : Nat) (v : Value) (W : World) : Prop := ∃ g cap, v = .slice (some ⟨g, 0, none⟩) 6 cap ∧ B ≤ g ∧ ∀ j u, (TrydTold ++ TrydStats)[j]? = some u → W.cell? ⟨g, j, none⟩ = some u

set_option maxRecDepth 8000 in
set_option maxHeartbeats 2000000 in
theorem Tryd_kinds (w : World) :
    Calls Tryd.prog 48 #[] w fun e w' => ∃ v, e = .returned v ∧ Below w.heap.size w w' ∧ TrydKinds w.heap.size v w' := by
  obtain ⟨i0, hi0, hz0, hz1, hz2⟩ := info_parts Tryd_info84
  go_enter Tryd.func48, Tryd.ntmps48
  go_wp2_with fail
  refine (Tryd_simple _).mono ?_; rintro e w1 ⟨rfl, hb1⟩; obtain ⟨hc1, hf1, hs1⟩ := after hb1
  unfold TrydTold
  go_wp2_with fail
  refine bodyPost_ret (v := .slice (some ⟨w1.heap.size + 1 + 1, 0, none⟩) 6 ((Question.appendCap 6 5 85).cut (w1.tape w1.drawn (Question.appendCap 6 5 85)))) (by simp [results, Tryd.results48, go_sem]) rfl ⟨_, rfl, ?_, ?_⟩
  · exact (by repeat (first | (with_reducible exact Below.refl _ _) | (with_reducible exact Below.refl _ _) | (with_reducible refine Below.setCell ?_ (by first | omega | (simp; done) | (simp; omega)) _) | (with_reducible refine Below.alloc ?_ (by first | omega | (simp; done) | (simp; omega)) _) | (with_reducible refine Below.drew ?_) | (with_reducible refine below_drewN ?_ _) | (with_reducible refine Below.trans ?_ (hb1.mono (by first | omega | (simp; done) | (simp; omega))))))
  · refine ⟨_, _, rfl, by omega, fun j u hj => ?_⟩
    rw [World.cell?_drew, cell_new_at _ _ _ (by simp), ← hj]
    have : j < 12 := by have := (List.getElem?_eq_some_iff.1 hj).1; simpa [TrydTold, TrydStats] using this
    rw [← Array.append_assoc, Array.getElem?_append_left (by simp; omega)]
    simp [TrydTold, TrydStats]

/-- The kind of a name. -/
def TrydKindOf (s : List UInt8) : Int × Int :=
  if ([95, 99, 111, 117, 110, 116] == s) = true then (1, 0) else if ([95, 115, 117, 109] == s) = true then (2, 0) else if ([95, 109, 105, 110] == s) = true then (3, 0)
  else if ([95, 109, 97, 120] == s) = true then (4, 0) else if ([95, 115, 116, 97, 116, 115] == s) = true then (5, 0) else (0, 4)

set_option maxRecDepth 8000 in
set_option maxHeartbeats 4000000 in
theorem Tryd_Kind (s : ByteArray) (w : World) :
    Calls Tryd.prog 46 #[.string s] w fun e w' => e = .returned (.tuple #[.int .i64 (TrydKindOf s.toList).1, .int .i64 (TrydKindOf s.toList).2]) ∧ Below w.heap.size w w' := by
  generalize hk : TrydKindOf s.toList = kk
  have HK := Lib.hid hk; clear hk
  go_enter Tryd.func46, Tryd.ntmps46
  go_wp2_with fail
  refine (Tryd_kinds _).mono ?_; rintro e w1 ⟨v, rfl, hb1, g, cap, rfl, hg, hcell⟩
  have s1 := hb1.size
  have c0 := hcell 0 _ rfl
  have c1 := hcell 1 _ rfl
  have c2 := hcell 2 _ rfl
  have c3 := hcell 3 _ rfl
  have c4 := hcell 4 _ rfl
  have c5 := hcell 5 _ rfl
  have c6 := hcell 6 _ rfl
  have c7 := hcell 7 _ rfl
  have c8 := hcell 8 _ rfl
  have c9 := hcell 9 _ rfl
  have c10 := hcell 10 _ rfl
  have c11 := hcell 11 _ rfl
  clear hcell
  have lg := World.block_lt_of_cell? w1 _ c0
  simp at lg
  have lt_w1_0_0 : g < w1.heap.size := by omega
  have lt_w1_0_1 : g < w1.heap.size + 1 := by omega
  have lt_w1_0_2 : g < w1.heap.size + 1 + 1 := by omega
  have lt_w1_0_3 : g < w1.heap.size + 1 + 1 + 1 := by omega
  have lt_w1_0_4 : g < w1.heap.size + 1 + 1 + 1 + 1 := by omega
  have lt_w1_0_5 : g < w1.heap.size + 1 + 1 + 1 + 1 + 1 := by omega
  have lt_w1_0_6 : g < w1.heap.size + 1 + 1 + 1 + 1 + 1 + 1 := by omega
  have lt_w1_0_7 : g < w1.heap.size + 1 + 1 + 1 + 1 + 1 + 1 + 1 := by omega
  go_wp2_with fail
  refine wp_loop_rounds 7 ?_
  repeat any_goals (rw [rounds_succ]; go_wp2)
  all_goals
    have hk := HK.out
    unfold TrydKindOf at hk
    simp only [*, if_true, if_false, Bool.false_eq_true] at hk
    subst hk
    go_ret2
    exact ⟨rfl, (by repeat (first | (with_reducible exact Below.refl _ _) | (with_reducible exact Below.refl _ _) | (with_reducible refine Below.setCell ?_ (by first | omega | (simp; done) | (simp; omega)) _) | (with_reducible refine Below.alloc ?_ (by first | omega | (simp; done) | (simp; omega)) _) | (with_reducible refine Below.drew ?_) | (with_reducible refine below_drewN ?_ _) | (with_reducible refine Below.trans ?_ (hb1.mono (by first | omega | (simp; done) | (simp; omega))))))⟩

/-- What is told of a sum. -/
def TrydSumOf (s : Int) : Int := if fitsB s then 0 else 5
theorem Tryd_sums_yes (c n s l m : Int) (w : World) (h : fitsB s = true) :
    Calls Tryd.prog 86 #[.agg #[.int .i64 c, .int .i64 n, .int .i64 (hi s), .int .u64 (lo s), .int .i64 l, .int .i64 m]] w fun e w' =>
      e = .returned (.tuple #[.agg #[.int .i64 3, .int .i64 (sg s), .string ⟨#[]⟩, .slice none 0 0, .slice none 0 0], .int .i64 0]) ∧ Below w.heap.size w w' := by
  have hq := fits_sg h
  go_enter Tryd.func86, Tryd.ntmps86
  go_wp2_with fail
  refine (Tryd_total _ _ _ _ _ _).mono ?_; rintro e w1 ⟨rfl, hb1⟩; obtain ⟨hc1, hf1, hs1⟩ := after hb1
  simp at hs1
  have lt_w1_0_0 : w.heap.size < w1.heap.size := by omega
  have lt_w1_0_1 : w.heap.size < w1.heap.size + 1 := by omega
  have lt_w1_1_0 : w.heap.size + 1 < w1.heap.size := by omega
  have lt_w1_1_1 : w.heap.size + 1 < w1.heap.size + 1 := by omega
  go_wp2_with fail
  refine (Tryd_fits _ _).mono ?_; rintro e w2 ⟨rfl, hb2⟩; obtain ⟨hc2, hf2, hs2⟩ := after hb2
  have lt_w2_0_0 : w.heap.size < w2.heap.size := by omega
  have lt_w2_0_1 : w.heap.size < w2.heap.size + 1 := by omega
  have lt_w2_1_0 : w.heap.size + 1 < w2.heap.size := by omega
  have lt_w2_1_1 : w.heap.size + 1 < w2.heap.size + 1 := by omega
  rw [h]
  go_wp2_with fail
  refine (Tryd_in _ _).mono ?_; rintro e w3 ⟨rfl, hb3⟩; obtain ⟨hc3, hf3, hs3⟩ := after hb3
  have lt_w3_0_0 : w.heap.size < w3.heap.size := by omega
  have lt_w3_0_1 : w.heap.size < w3.heap.size + 1 := by omega
  have lt_w3_1_0 : w.heap.size + 1 < w3.heap.size := by omega
  have lt_w3_1_1 : w.heap.size + 1 < w3.heap.size + 1 := by omega
  go_wp2_with fail
  refine bodyPost_ret (v := .tuple #[.agg #[.int .i64 3, .int .i64 (sg s), .string ⟨#[]⟩, .slice none 0 0, .slice none 0 0], .int .i64 0]) (by simp [results, Tryd.results86, go_sem, *]) rfl ⟨rfl, ?_⟩
  exact (by repeat (first | (with_reducible exact Below.refl _ _) | (with_reducible exact Below.refl _ _) | (with_reducible refine Below.setCell ?_ (by first | omega | (simp; done) | (simp; omega)) _) | (with_reducible refine Below.alloc ?_ (by first | omega | (simp; done) | (simp; omega)) _) | (with_reducible refine Below.drew ?_) | (with_reducible refine below_drewN ?_ _) | (with_reducible refine Below.trans ?_ (hb3.mono (by first | omega | (simp; done) | (simp; omega)))) | (with_reducible refine Below.trans ?_ (hb2.mono (by first | omega | (simp; done) | (simp; omega)))) | (with_reducible refine Below.trans ?_ (hb1.mono (by first | omega | (simp; done) | (simp; omega))))))

theorem Tryd_sums_no (c n s l m : Int) (w : World) (h : fitsB s = false) :
    Calls Tryd.prog 86 #[.agg #[.int .i64 c, .int .i64 n, .int .i64 (hi s), .int .u64 (lo s), .int .i64 l, .int .i64 m]] w fun e w' =>
      e = .returned (.tuple #[.agg #[.int .i64 0, .int .i64 0, .string ⟨#[]⟩, .slice none 0 0, .slice none 0 0], .int .i64 5]) ∧ Below w.heap.size w w' := by
  go_enter Tryd.func86, Tryd.ntmps86
  go_wp2_with fail
  refine (Tryd_total _ _ _ _ _ _).mono ?_; rintro e w1 ⟨rfl, hb1⟩; obtain ⟨hc1, hf1, hs1⟩ := after hb1
  simp at hs1
  have lt_w1_0_0 : w.heap.size < w1.heap.size := by omega
  have lt_w1_0_1 : w.heap.size < w1.heap.size + 1 := by omega
  have lt_w1_1_0 : w.heap.size + 1 < w1.heap.size := by omega
  have lt_w1_1_1 : w.heap.size + 1 < w1.heap.size + 1 := by omega
  go_wp2_with fail
  refine (Tryd_fits _ _).mono ?_; rintro e w2 ⟨rfl, hb2⟩; obtain ⟨hc2, hf2, hs2⟩ := after hb2
  have lt_w2_0_0 : w.heap.size < w2.heap.size := by omega
  have lt_w2_0_1 : w.heap.size < w2.heap.size + 1 := by omega
  have lt_w2_1_0 : w.heap.size + 1 < w2.heap.size := by omega
  have lt_w2_1_1 : w.heap.size + 1 < w2.heap.size + 1 := by omega
  rw [h]
  go_wp2_with fail
  refine bodyPost_ret (v := .tuple #[.agg #[.int .i64 0, .int .i64 0, .string ⟨#[]⟩, .slice none 0 0, .slice none 0 0], .int .i64 5]) (by simp [results, Tryd.results86, go_sem, *]) rfl ⟨rfl, ?_⟩
  exact (by repeat (first | (with_reducible exact Below.refl _ _) | (with_reducible exact Below.refl _ _) | (with_reducible refine Below.setCell ?_ (by first | omega | (simp; done) | (simp; omega)) _) | (with_reducible refine Below.alloc ?_ (by first | omega | (simp; done) | (simp; omega)) _) | (with_reducible refine Below.drew ?_) | (with_reducible refine below_drewN ?_ _) | (with_reducible refine Below.trans ?_ (hb2.mono (by first | omega | (simp; done) | (simp; omega)))) | (with_reducible refine Below.trans ?_ (hb1.mono (by first | omega | (simp; done) | (simp; omega))))))

/-- One row's reduction, as the law's own function makes it. -/
theorem Tryd_row (x : Int) (w : World) (hx : I64 x) :
    Calls Tryd.prog 43 #[.int .i64 x] w fun e w' =>
      e = .returned (.agg #[.int .i64 1, .int .i64 1, .int .i64 (hi x), .int .u64 (lo x), .int .i64 x, .int .i64 x]) ∧ Below w.heap.size w w' := by
  go_enter Tryd.func43, Tryd.ntmps43
  go_wp2_with fail
  refine (Tryd_One_yes _ _ _ _ hx).mono ?_; rintro e w1 ⟨rfl, hb1⟩; obtain ⟨hc1, hf1, hs1⟩ := after hb1
  simp at hs1
  have lt_w1_0_0 : w.heap.size < w1.heap.size := by omega
  have lt_w1_0_1 : w.heap.size < w1.heap.size + 1 := by omega
  go_wp2_with fail
  refine bodyPost_ret (v := .agg #[.int .i64 1, .int .i64 1, .int .i64 (hi x), .int .u64 (lo x), .int .i64 x, .int .i64 x]) (by simp [results, Tryd.results43, go_sem, *]) rfl ⟨rfl, ?_⟩
  exact (by repeat (first | (with_reducible exact Below.refl _ _) | (with_reducible exact Below.refl _ _) | (with_reducible refine Below.setCell ?_ (by first | omega | (simp; done) | (simp; omega)) _) | (with_reducible refine Below.alloc ?_ (by first | omega | (simp; done) | (simp; omega)) _) | (with_reducible refine Below.drew ?_) | (with_reducible refine below_drewN ?_ _) | (with_reducible refine Below.trans ?_ (hb1.mono (by first | omega | (simp; done) | (simp; omega))))))
end Go.Proofs.YtmcmknndhppljaaDoor

namespace Go.Proofs.YtmcmknndhppljaaDoor
set_option linter.unusedVariables false
set_option linter.unusedSimpArgs false
open Go.RowKit Go.Dav
attribute [local go_sem] Gives ite_val ite_val_true

theorem Tryd_kinds_later (B : Nat) : ∀ v W W', TrydKinds B v W → Below W.heap.size W W' → TrydKinds B v W' :=
  fun _ _ _ ⟨g, cap, h1, h2, h3⟩ hb => ⟨g, cap, h1, h2, fun j u hj => by rw [hb.cell (p := ⟨g, j, none⟩) (World.block_lt_of_cell? _ _ (h3 j u hj))]; exact h3 j u hj⟩

set_option maxRecDepth 8000 in
set_option maxHeartbeats 4000000 in
theorem Tryd_Tell_sum_yes (r : Red) (w : World) (hok : r.ok = true) (hl : I64 r.l) (hm : I64 r.m) (hs : fitsB r.s = true) :
    Calls Tryd.prog 15 #[.int .i64 2, .agg #[.int .i64 r.c, .int .i64 r.n, .int .i64 (hi r.s), .int .u64 (lo r.s), .int .i64 r.l, .int .i64 r.m]] w fun e w' =>
      e = .returned (.tuple #[.agg #[.int .i64 3, .int .i64 (sg r.s), .string ⟨#[]⟩, .slice none 0 0, .slice none 0 0], .int .i64 0]) ∧ Below w.heap.size w w' := by
  have er : redE r.ok = 0 := by rw [hok]; rfl
  have Hs := Lib.hid hs; clear hs
  clear hok
  go_enter Tryd.func15, Tryd.ntmps15
  go_wp2_with fail
  refine (Tryd_mCheck r _ hl hm).mono ?_; rintro e w1 ⟨rfl, hb1⟩; obtain ⟨hc1, hf1, hs1⟩ := after hb1
  simp at hs1
  have lt_w1_0_0 : w.heap.size < w1.heap.size := by omega
  have lt_w1_0_1 : w.heap.size < w1.heap.size + 1 := by omega
  have lt_w1_1_0 : w.heap.size + 1 < w1.heap.size := by omega
  have lt_w1_1_1 : w.heap.size + 1 < w1.heap.size + 1 := by omega
  rw [er]
  go_wp2_with fail
  refine' wp_region_seq [.inr (TrydKinds w1.heap.size), .inl _, .inr (CellIs 4 5 (.func (.func 86) #[] #[])), .inr (CellIs 5 5 (.func (.func 86) #[] #[])), .inl _, .inl _, .inl _, .inl _, .inl _] (by kernel_rfl) (by kernel_rfl) ?main1
  case main1 =>
    refine wpParts_any rfl (Tryd_kinds_later _) (by rfl) (fun W hE hN => ?_) (fun u0 => ?_)
    · go_simp; refine ⟨Below.refl _ _, (Tryd_kinds _).mono ?_⟩; rintro e w' ⟨v, rfl, hb, g, cap, rfl, hg, hcell⟩; exact ⟨_, rfl, hb, g, cap, rfl, Nat.le_trans hE.size hg, hcell⟩
    simp only [Act.put, List.setIfInBounds_toArray, List.set_cons_zero, List.set_cons_succ]
    refine wpParts_det (by rfl) (fun W hE hN => ?_) ?_
    · go_simp; refine ⟨Below.refl _ _, ?_⟩; rfl
    simp only [Act.put, List.setIfInBounds_toArray, List.set_cons_zero, List.set_cons_succ]
    refine wpParts_any rfl (CellIs.later) (by rfl) (fun W hE hN => ?_) (fun u2 => ?_)
    · simp [near, Oper.looksAt, Op.operands] at hN; obtain ⟨g, cap, rfl, hg, hcell⟩ := hN; go_simp; exact ⟨Below.refl _ _, g, rfl, hcell 5 _ rfl⟩
    simp only [Act.put, List.setIfInBounds_toArray, List.set_cons_zero, List.set_cons_succ]
    refine wpParts_any rfl (CellIs.later) (by rfl) (fun W hE hN => ?_) (fun u3 => ?_)
    · simp [near, Oper.looksAt, Op.operands] at hN; obtain ⟨g, rfl, hcell⟩ := hN; go_simp; exact ⟨Below.refl _ _, g, rfl, hcell⟩
    simp only [Act.put, List.setIfInBounds_toArray, List.set_cons_zero, List.set_cons_succ]
    refine wpParts_det (by rfl) (fun W hE hN => ?_) ?_
    · simp [near, Oper.looksAt, Op.operands] at hN; obtain ⟨g, rfl, hcell⟩ := hN; go_simp; refine ⟨Below.refl _ _, ?_⟩; rfl
    simp only [Act.put, List.setIfInBounds_toArray, List.set_cons_zero, List.set_cons_succ]
    refine wpParts_det (by rfl) (fun W hE hN => ?_) ?_
    · have hc := fun b o h => hE.cell (p := ⟨b, o, none⟩) h
      go_simp; refine ⟨Below.refl _ _, ?_⟩; rfl
    simp only [Act.put, List.setIfInBounds_toArray, List.set_cons_zero, List.set_cons_succ]
    refine wpParts_det (by rfl) (fun W hE hN => ?_) ?_
    · go_simp; refine ⟨Below.refl _ _, ?_⟩; refine (Tryd_sums_yes _ _ _ _ _ _ Hs.out).mono ?_; rintro e w' ⟨rfl, hb⟩; refine ⟨?_, hb⟩; rfl
    simp only [Act.put, List.setIfInBounds_toArray, List.set_cons_zero, List.set_cons_succ]
    refine wpParts_det (by rfl) (fun W hE hN => ?_) ?_
    · go_simp; refine ⟨Below.refl _ _, ?_⟩; rfl
    simp only [Act.put, List.setIfInBounds_toArray, List.set_cons_zero, List.set_cons_succ]
    refine wpParts_det (by rfl) (fun W hE hN => ?_) ?_
    · go_simp; refine ⟨Below.refl _ _, ?_⟩; rfl
    simp only [Act.put, List.setIfInBounds_toArray, List.set_cons_zero, List.set_cons_succ]
    refine wpParts_end fun W2 hE2 hG2 => ?_
    have hcW2 := fun b o h => hE2.cell (p := ⟨b, o, none⟩) h
    have hfW2 := fun b o h => hE2.frozen (p := ⟨b, o, none⟩) h
    have s2 := hE2.size
    try simp at s2
    have lt_W2_0_0 : w.heap.size < W2.heap.size := by omega
    have lt_W2_0_1 : w.heap.size < W2.heap.size + 1 := by omega
    have lt_W2_1_0 : w.heap.size + 1 < W2.heap.size := by omega
    have lt_W2_1_1 : w.heap.size + 1 < W2.heap.size + 1 := by omega
    go_wp2
    refine bodyPost_ret (v := .tuple #[.agg #[.int .i64 3, .int .i64 (sg r.s), .string ⟨#[]⟩, .slice none 0 0, .slice none 0 0], .int .i64 0]) (by simp [results, Tryd.results15, go_sem, *]) rfl ⟨rfl, ?_⟩
    exact (by repeat (first | (with_reducible exact Below.refl _ _) | (with_reducible exact Below.refl _ _) | (with_reducible refine Below.setCell ?_ (by first | omega | (simp; done) | (simp; omega)) _) | (with_reducible refine Below.alloc ?_ (by first | omega | (simp; done) | (simp; omega)) _) | (with_reducible refine Below.drew ?_) | (with_reducible refine below_drewN ?_ _) | (with_reducible refine Below.trans ?_ (hE2.mono (by first | omega | (simp; done) | (simp; omega)))) | (with_reducible refine Below.trans ?_ (hb1.mono (by first | omega | (simp; done) | (simp; omega))))))
set_option maxRecDepth 8000 in
set_option maxHeartbeats 4000000 in
theorem Tryd_Tell_sum_no (r : Red) (w : World) (hok : r.ok = true) (hl : I64 r.l) (hm : I64 r.m) (hs : fitsB r.s = false) :
    Calls Tryd.prog 15 #[.int .i64 2, .agg #[.int .i64 r.c, .int .i64 r.n, .int .i64 (hi r.s), .int .u64 (lo r.s), .int .i64 r.l, .int .i64 r.m]] w fun e w' =>
      e = .returned (.tuple #[.agg #[.int .i64 0, .int .i64 0, .string ⟨#[]⟩, .slice none 0 0, .slice none 0 0], .int .i64 5]) ∧ Below w.heap.size w w' := by
  have er : redE r.ok = 0 := by rw [hok]; rfl
  have Hs := Lib.hid hs; clear hs
  clear hok
  go_enter Tryd.func15, Tryd.ntmps15
  go_wp2_with fail
  refine (Tryd_mCheck r _ hl hm).mono ?_; rintro e w1 ⟨rfl, hb1⟩; obtain ⟨hc1, hf1, hs1⟩ := after hb1
  simp at hs1
  have lt_w1_0_0 : w.heap.size < w1.heap.size := by omega
  have lt_w1_0_1 : w.heap.size < w1.heap.size + 1 := by omega
  have lt_w1_1_0 : w.heap.size + 1 < w1.heap.size := by omega
  have lt_w1_1_1 : w.heap.size + 1 < w1.heap.size + 1 := by omega
  rw [er]
  go_wp2_with fail
  refine' wp_region_seq [.inr (TrydKinds w1.heap.size), .inl _, .inr (CellIs 4 5 (.func (.func 86) #[] #[])), .inr (CellIs 5 5 (.func (.func 86) #[] #[])), .inl _, .inl _, .inl _, .inl _, .inl _] (by kernel_rfl) (by kernel_rfl) ?main2
  case main2 =>
    refine wpParts_any rfl (Tryd_kinds_later _) (by rfl) (fun W hE hN => ?_) (fun u0 => ?_)
    · go_simp; refine ⟨Below.refl _ _, (Tryd_kinds _).mono ?_⟩; rintro e w' ⟨v, rfl, hb, g, cap, rfl, hg, hcell⟩; exact ⟨_, rfl, hb, g, cap, rfl, Nat.le_trans hE.size hg, hcell⟩
    simp only [Act.put, List.setIfInBounds_toArray, List.set_cons_zero, List.set_cons_succ]
    refine wpParts_det (by rfl) (fun W hE hN => ?_) ?_
    · go_simp; refine ⟨Below.refl _ _, ?_⟩; rfl
    simp only [Act.put, List.setIfInBounds_toArray, List.set_cons_zero, List.set_cons_succ]
    refine wpParts_any rfl (CellIs.later) (by rfl) (fun W hE hN => ?_) (fun u2 => ?_)
    · simp [near, Oper.looksAt, Op.operands] at hN; obtain ⟨g, cap, rfl, hg, hcell⟩ := hN; go_simp; exact ⟨Below.refl _ _, g, rfl, hcell 5 _ rfl⟩
    simp only [Act.put, List.setIfInBounds_toArray, List.set_cons_zero, List.set_cons_succ]
    refine wpParts_any rfl (CellIs.later) (by rfl) (fun W hE hN => ?_) (fun u3 => ?_)
    · simp [near, Oper.looksAt, Op.operands] at hN; obtain ⟨g, rfl, hcell⟩ := hN; go_simp; exact ⟨Below.refl _ _, g, rfl, hcell⟩
    simp only [Act.put, List.setIfInBounds_toArray, List.set_cons_zero, List.set_cons_succ]
    refine wpParts_det (by rfl) (fun W hE hN => ?_) ?_
    · simp [near, Oper.looksAt, Op.operands] at hN; obtain ⟨g, rfl, hcell⟩ := hN; go_simp; refine ⟨Below.refl _ _, ?_⟩; rfl
    simp only [Act.put, List.setIfInBounds_toArray, List.set_cons_zero, List.set_cons_succ]
    refine wpParts_det (by rfl) (fun W hE hN => ?_) ?_
    · have hc := fun b o h => hE.cell (p := ⟨b, o, none⟩) h
      go_simp; refine ⟨Below.refl _ _, ?_⟩; rfl
    simp only [Act.put, List.setIfInBounds_toArray, List.set_cons_zero, List.set_cons_succ]
    refine wpParts_det (by rfl) (fun W hE hN => ?_) ?_
    · go_simp; refine ⟨Below.refl _ _, ?_⟩; refine (Tryd_sums_no _ _ _ _ _ _ Hs.out).mono ?_; rintro e w' ⟨rfl, hb⟩; refine ⟨?_, hb⟩; rfl
    simp only [Act.put, List.setIfInBounds_toArray, List.set_cons_zero, List.set_cons_succ]
    refine wpParts_det (by rfl) (fun W hE hN => ?_) ?_
    · go_simp; refine ⟨Below.refl _ _, ?_⟩; rfl
    simp only [Act.put, List.setIfInBounds_toArray, List.set_cons_zero, List.set_cons_succ]
    refine wpParts_det (by rfl) (fun W hE hN => ?_) ?_
    · go_simp; refine ⟨Below.refl _ _, ?_⟩; rfl
    simp only [Act.put, List.setIfInBounds_toArray, List.set_cons_zero, List.set_cons_succ]
    refine wpParts_end fun W2 hE2 hG2 => ?_
    have hcW2 := fun b o h => hE2.cell (p := ⟨b, o, none⟩) h
    have hfW2 := fun b o h => hE2.frozen (p := ⟨b, o, none⟩) h
    have s2 := hE2.size
    try simp at s2
    have lt_W2_0_0 : w.heap.size < W2.heap.size := by omega
    have lt_W2_0_1 : w.heap.size < W2.heap.size + 1 := by omega
    have lt_W2_1_0 : w.heap.size + 1 < W2.heap.size := by omega
    have lt_W2_1_1 : w.heap.size + 1 < W2.heap.size + 1 := by omega
    go_wp2
    refine bodyPost_ret (v := .tuple #[.agg #[.int .i64 0, .int .i64 0, .string ⟨#[]⟩, .slice none 0 0, .slice none 0 0], .int .i64 5]) (by simp [results, Tryd.results15, go_sem, *]) rfl ⟨rfl, ?_⟩
    exact (by repeat (first | (with_reducible exact Below.refl _ _) | (with_reducible exact Below.refl _ _) | (with_reducible refine Below.setCell ?_ (by first | omega | (simp; done) | (simp; omega)) _) | (with_reducible refine Below.alloc ?_ (by first | omega | (simp; done) | (simp; omega)) _) | (with_reducible refine Below.drew ?_) | (with_reducible refine below_drewN ?_ _) | (with_reducible refine Below.trans ?_ (hE2.mono (by first | omega | (simp; done) | (simp; omega)))) | (with_reducible refine Below.trans ?_ (hb1.mono (by first | omega | (simp; done) | (simp; omega))))))
end Go.Proofs.YtmcmknndhppljaaDoor

namespace Go.Proofs.YtmcmknndhppljaaDoor
set_option linter.unusedVariables false
set_option linter.unusedSimpArgs false
open Go.RowKit Go.Dav
attribute [local go_sem] Gives ite_val ite_val_true

/-- In block b, from offset o on, the reductions lie one behind the other. -/
def TrydRedsAt (W : World) (b o : Nat) (l : List Red) : Prop :=
  ∀ k r, l[k]? = some r → ∀ j v, r.cells[j]? = some v → W.cell? ⟨b, o + k * 6 + j, none⟩ = some v

theorem Tryd_reds_flat : ∀ (l : List Red) (k : Nat) (r : Red), l[k]? = some r → ∀ (j : Nat) (v : Value), r.cells[j]? = some v → (l.flatMap Red.cells)[k * 6 + j]? = some v
  | [], k, r, h, _, _, _ => by simp at h
  | x :: l, 0, r, h, j, v, hj => by
    have e : x = r := by simpa using h
    subst e
    have hlt : j < x.cells.length := (List.getElem?_eq_some_iff.1 hj).1
    rw [List.flatMap_cons, Nat.zero_mul, Nat.zero_add, List.getElem?_append_left hlt]
    exact hj
  | x :: l, k + 1, r, h, j, v, hj => by
    have ih := Tryd_reds_flat l k r (by simpa using h) j v hj
    have hx : x.cells.length = 6 := rfl
    rw [List.flatMap_cons, List.getElem?_append_right (by rw [hx]; omega), hx, show (k + 1) * 6 + j - 6 = k * 6 + j by omega]
    exact ih

theorem Tryd_RedsAt_flat {W : World} {b : Nat} {l : List Red} {cs : List Value} {t : TypeId} (h : Blk W b cs t) (e : l.flatMap Red.cells = cs) : TrydRedsAt W b 0 l := by
  subst e
  intro k r hk j v hj
  rw [Nat.zero_add]
  exact h.cell _ (Tryd_reds_flat l k r hk j v hj)

def TrydJoinRel (w : World) (l : List Red) (ix ev : Value) (wr : World) : Prop :=
  ∃ k : Nat, k ≤ l.length ∧ ix = .int .i64 k ∧ ev = .int .i64 0 ∧ (∀ j r, j < k → l[j]? = some r → r.ok = true) ∧
    Blk wr w.heap.size [.int .i64 0, .int .i64 0, .int .i64 0, .int .u64 0, .int .i64 0, .int .i64 0] 30 ∧
    Blk wr (w.heap.size + 1) [.int .i64 0, .int .i64 0, .int .i64 0, .int .u64 0, .int .i64 0, .int .i64 0] 30 ∧ Below w.heap.size w wr

/-- The reduction of the first k is at hand. -/
def TrydJoinRel2 (w : World) (l : List Red) (ix : Value) (wr : World) : Prop :=
  ∃ (k : Nat) (acc : Red), k ≤ l.length ∧ ix = .int .i64 k ∧ joinL Red.zero l = joinL acc (l.drop k) ∧ acc.fine ∧
    Blk wr w.heap.size [.int .i64 0, .int .i64 0, .int .i64 0, .int .u64 0, .int .i64 0, .int .i64 0] 30 ∧
    Blk wr (w.heap.size + 1) acc.cells 30 ∧ Below w.heap.size w wr

set_option maxRecDepth 4000 in
set_option maxHeartbeats 4000000 in
theorem Tryd_Join (b o cap : Nat) (l : List Red) (w : World) (hl : (l.length : Int) ≤ 9223372036854775807) (hb : b < w.heap.size) (hr : TrydRedsAt w b o l) (hf : ∀ r ∈ l, r.fits) :
    Calls Tryd.prog 14 #[.slice (some ⟨b, o, none⟩) l.length cap] w fun e w' =>
      e = .returned (.tuple #[.agg (joined l).1.cells.toArray, .int .i64 (joined l).2]) ∧ Below w.heap.size w w' := by
  go_enter Tryd.func14, Tryd.ntmps14
  go_wp2_with fail
  go_step3
  go_wp2_with fail
  go_step3
  go_wp2_with fail
  go_loopw [13, 4] (fun ix ev wr => TrydJoinRel w l ix ev wr) (fun ix _ _ => l.length - (intOf ix).toNat)
  case atStart =>
    refine ⟨0, Nat.zero_le _, rfl, rfl, fun j r hj => by omega, (Blk.new _ [_, _, _, _, _, _] _).alloc _, Blk.new' _ [_, _, _, _, _, _] _ (by simp), (by repeat (first | (with_reducible exact Below.refl _ _) | (with_reducible exact Below.refl _ _) | (with_reducible refine Below.setCell ?_ (by first | omega | (simp; done) | (simp; omega)) _) | (with_reducible refine Below.alloc ?_ (by first | omega | (simp; done) | (simp; omega)) _) | (with_reducible refine Below.drew ?_) | (with_reducible refine below_drewN ?_ _)))⟩
  case round =>
    obtain ⟨k, hk, rfl, rfl, hok, hres, hout, hbel⟩ := hrel
    have hbs := hbel.size
    have hbw : b < wr.heap.size := by omega
    have lr := hres.lt
    have lout := hout.lt
    by_cases hlt : k < l.length
    · obtain ⟨r, hrk⟩ : ∃ r, l[k]? = some r := ⟨_, List.getElem?_eq_getElem hlt⟩
      have hfit := hf r (List.mem_of_getElem? hrk)
      have q : ∀ j v, r.cells[j]? = some v → wr.cell? ⟨b, o + k * 6 + j, none⟩ = some v := fun j v h => by rw [hbel.cell (p := ⟨b, o + k * 6 + j, none⟩) hb]; exact hr k r hrk j v h
      have q0 := q 0 _ rfl
      rw [Nat.add_zero] at q0
      have q1 := q 1 _ rfl
      have q2 := q 2 _ rfl
      have q3 := q 3 _ rfl
      have q4 := q 4 _ rfl
      have q5 := q 5 _ rfl
      clear q
      have hkl : (k : Int) < (l.length : Int) := by omega
      have HK := Lib.hid hk; clear hk
      have HL := Lib.hid hlt; clear hlt
      have HR := Lib.hid hrk; clear hrk
      have HO := Lib.hid hok; clear hok
      have HRR := Lib.hid hr; clear hr
      have HF := Lib.hid hf; clear hf
      go_wp2_with fail
      refine (Tryd_mCheck r _ hfit.2.2.1 hfit.2.2.2).mono ?_; rintro e w1 ⟨rfl, hb1⟩; obtain ⟨hc1, hf1, hs1⟩ := after hb1
      simp at hs1
      have lt_w1_0_0 : w.heap.size < w1.heap.size := by omega
      have lt_w1_0_1 : w.heap.size < w1.heap.size + 1 := by omega
      have lt_w1_1_0 : w.heap.size + 1 < w1.heap.size := by omega
      have lt_w1_1_1 : w.heap.size + 1 < w1.heap.size + 1 := by omega
      have hres1 := (hres.alloc _).ext hb1
      have hout1 := (hout.alloc _).ext hb1
      have bel1 : Below w.heap.size w w1 := (by repeat (first | (with_reducible exact Below.refl _ _) | (with_reducible exact Below.refl _ _) | (with_reducible refine Below.setCell ?_ (by first | omega | (simp; done) | (simp; omega)) _) | (with_reducible refine Below.alloc ?_ (by first | omega | (simp; done) | (simp; omega)) _) | (with_reducible refine Below.drew ?_) | (with_reducible refine below_drewN ?_ _) | (with_reducible refine Below.trans ?_ (hb1.mono (by first | omega | (simp; done) | (simp; omega)))) | (with_reducible refine Below.trans ?_ (hbel.mono (by first | omega | (simp; done) | (simp; omega))))))
      by_cases hv : r.ok = true
      · have er : redE r.ok = 0 := by rw [hv]; rfl
        rw [er]
        go_wp2_with fail
        go_roundw
        case rel => 
          refine ⟨k + 1, HL.out, by go_num, rfl, fun j r' hj h => ?_, hres1, hout1, bel1⟩
          by_cases e : j = k
          · subst e; rw [HR.out] at h; cases h; exact hv
          · exact HO.out j r' (by omega) h
        case measure => have := HL.out; simp [intOf]; omega
      · have er : redE r.ok = 230 := by unfold redE; rw [if_neg hv]
        rw [er]
        clear hc1 hf1
        have r0 := hres1.cell 0 rfl
        have r1 := hres1.cell 1 rfl
        have r2 := hres1.cell 2 rfl
        have r3 := hres1.cell 3 rfl
        have r4 := hres1.cell 4 rfl
        have r5 := hres1.cell 5 rfl
        have g0 := hres1.frozen 0
        have g1 := hres1.frozen 1
        have g2 := hres1.frozen 2
        have g3 := hres1.frozen 3
        have g4 := hres1.frozen 4
        have g5 := hres1.frozen 5
        go_wp2
        rw [Exit.noGoto_ret]
        have hj : joined l = (Red.zero, 230) := by
          unfold joined
          rw [if_neg]
          intro hc
          exact hv (List.all_eq_true.1 hc r (List.mem_of_getElem? HR.out))
        refine bodyPost_ret (v := .tuple #[.agg #[.int .i64 0, .int .i64 0, .int .i64 0, .int .u64 0, .int .i64 0, .int .i64 0], .int .i64 230]) (by simp [results, Tryd.results14, go_sem, r0, r1, r2, r3, r4, r5]) rfl ⟨by rw [hj]; simp [Red.zero, Red.cells, hi_zero, lo_zero], ?_⟩
        exact (by repeat (first | (with_reducible exact Below.refl _ _) | (with_reducible exact Below.refl _ _) | (with_reducible refine Below.setCell ?_ (by first | omega | (simp; done) | (simp; omega)) _) | (with_reducible refine Below.alloc ?_ (by first | omega | (simp; done) | (simp; omega)) _) | (with_reducible refine Below.drew ?_) | (with_reducible refine below_drewN ?_ _) | (with_reducible refine Below.trans ?_ (bel1.mono (by first | omega | (simp; done) | (simp; omega))))))
    · have hkl : k = l.length := by omega
      subst hkl
      have hall : l.all Red.ok = true := List.all_eq_true.2 fun r hr => by
        obtain ⟨j, hj, e⟩ := List.mem_iff_getElem.1 hr
        exact hok j r hj (by rw [List.getElem?_eq_getElem hj, e])
      have HO := Lib.hid hok; clear hok
      have HA := Lib.hid hall; clear hall
      have HRR := Lib.hid hr; clear hr
      have HF := Lib.hid hf; clear hf
      clear hk hlt
      go_wp2_with fail
      go_loopw [28] (fun ix wr2 => TrydJoinRel2 w l ix wr2) (fun ix _ => l.length - (intOf ix).toNat)
      case atStart =>
        refine ⟨0, Red.zero, Nat.zero_le _, rfl, rfl, Red.zero_fine, hres, ?_, hbel⟩
        have := hout
        simpa [Red.zero, Red.cells, hi_zero, lo_zero] using this
      case round =>
        obtain ⟨k, acc, hk, rfl, hacc, hfine, hres, hout, hbel⟩ := hrel
        have hbs := hbel.size
        have hbw : b < wr.heap.size := by omega
        have lr := hres.lt
        have lout := hout.lt
        have r0 := hres.cell 0 rfl
        have r1 := hres.cell 1 rfl
        have r2 := hres.cell 2 rfl
        have r3 := hres.cell 3 rfl
        have r4 := hres.cell 4 rfl
        have r5 := hres.cell 5 rfl
        have g0 := hres.frozen 0
        have g1 := hres.frozen 1
        have g2 := hres.frozen 2
        have g3 := hres.frozen 3
        have g4 := hres.frozen 4
        have g5 := hres.frozen 5
        have p0 := hout.frozen 0
        have p1 := hout.frozen 1
        have p2 := hout.frozen 2
        have p3 := hout.frozen 3
        have p4 := hout.frozen 4
        have p5 := hout.frozen 5
        have o0 := hout.cell 0 rfl
        have o1 := hout.cell 1 rfl
        have o2 := hout.cell 2 rfl
        have o3 := hout.cell 3 rfl
        have o4 := hout.cell 4 rfl
        have o5 := hout.cell 5 rfl
        by_cases hlt : k < l.length
        · obtain ⟨r, hrk⟩ : ∃ r, l[k]? = some r := ⟨_, List.getElem?_eq_getElem hlt⟩
          have hfit := HF.out r (List.mem_of_getElem? hrk)
          have hrok : r.ok = true := HO.out k r hlt hrk
          have hrf := Red.fine_of hrok
          have hdrop : l.drop k = r :: l.drop (k + 1) := by
            rw [List.getElem?_eq_getElem hlt] at hrk; cases hrk
            exact List.drop_eq_getElem_cons hlt
          have q : ∀ j v, r.cells[j]? = some v → wr.cell? ⟨b, o + k * 6 + j, none⟩ = some v := fun j v h => by rw [hbel.cell (p := ⟨b, o + k * 6 + j, none⟩) hb]; exact HRR.out k r hrk j v h
          have q0 := q 0 _ rfl
          rw [Nat.add_zero] at q0
          have q1 := q 1 _ rfl
          have q2 := q 2 _ rfl
          have q3 := q 3 _ rfl
          have q4 := q 4 _ rfl
          have q5 := q 5 _ rfl
          clear q
          have hkl : (k : Int) < (l.length : Int) := by omega
          have hsub : IntKind.i64.wrap (1073741824 - r.c) = 1073741824 - r.c := by rw [i64_wrap_def]; unfold Red.fine at hrf; omega
          have HD := Lib.hid hdrop; clear hdrop
          have HK := Lib.hid hk; clear hk
          have HL := Lib.hid hlt; clear hlt
          have HR := Lib.hid hrk; clear hrk
          have HC := Lib.hid hacc; clear hacc
          have HV := Lib.hid hrok; clear hrok
          have HS := Lib.hid hfine; clear hfine
          have HRF := Lib.hid hrf; clear hrf
          by_cases hov : 1073741824 - r.c < acc.c
          · go_wp2
            rw [Exit.noGoto_ret]
            have hj : joined l = (Red.zero, 5) := by
              unfold joined
              rw [if_pos HA.out, HC.out, HD.out, joinL, if_pos hov]
            refine bodyPost_ret (v := .tuple #[.agg #[.int .i64 0, .int .i64 0, .int .i64 0, .int .u64 0, .int .i64 0, .int .i64 0], .int .i64 5]) (by simp [results, Tryd.results14, go_sem, lr, r0, r1, r2, r3, r4, r5]) rfl ⟨by rw [hj]; simp [Red.zero, Red.cells, hi_zero, lo_zero], ?_⟩
            exact (by repeat (first | (with_reducible exact Below.refl _ _) | (with_reducible exact Below.refl _ _) | (with_reducible refine Below.setCell ?_ (by first | omega | (simp; done) | (simp; omega)) _) | (with_reducible refine Below.alloc ?_ (by first | omega | (simp; done) | (simp; omega)) _) | (with_reducible refine Below.drew ?_) | (with_reducible refine below_drewN ?_ _) | (with_reducible refine Below.trans ?_ (hbel.mono (by first | omega | (simp; done) | (simp; omega))))))
          · go_wp2_with fail
            (with_reducible refine (Tryd_both acc.c acc.n acc.s acc.l acc.m r.c r.n r.s r.l r.m _ (Red.fine_n HS.out) (Red.fine_n HRF.out) (by have h1 := HS.out; have h2 := HRF.out; unfold Red.fine at h1 h2; rw [i64_wrap_def]; omega)
              (by have h1 := HS.out; have h2 := HRF.out; unfold Red.fine at h1 h2; rw [i64_wrap_def]; omega)).mono ?_); rintro e w1 ⟨rfl, hb1⟩; obtain ⟨hc1, hf1, hs1⟩ := after hb1
            simp at hs1
            have lt_w1_0_0 : w.heap.size < w1.heap.size := by omega
            have lt_w1_0_1 : w.heap.size < w1.heap.size + 1 := by omega
            have lt_w1_1_0 : w.heap.size + 1 < w1.heap.size := by omega
            have lt_w1_1_1 : w.heap.size + 1 < w1.heap.size + 1 := by omega
            have hres1 := (hres.alloc _).ext hb1
            have hout1 := (hout.alloc _).ext hb1
            have bel1 : Below w.heap.size w w1 := (by repeat (first | (with_reducible exact Below.refl _ _) | (with_reducible exact Below.refl _ _) | (with_reducible refine Below.setCell ?_ (by first | omega | (simp; done) | (simp; omega)) _) | (with_reducible refine Below.alloc ?_ (by first | omega | (simp; done) | (simp; omega)) _) | (with_reducible refine Below.drew ?_) | (with_reducible refine below_drewN ?_ _) | (with_reducible refine Below.trans ?_ (hb1.mono (by first | omega | (simp; done) | (simp; omega)))) | (with_reducible refine Below.trans ?_ (hbel.mono (by first | omega | (simp; done) | (simp; omega))))))
            go_wp2_with fail
            go_roundw
            case rel =>
              refine ⟨k + 1, acc.both r, HL.out, by go_num, ?_, Red.both_fine HS.out HRF.out (Int.not_lt.2 hov), ?_, ?_, ?_⟩
              · rw [HC.out, HD.out, joinL, if_neg (Int.not_lt.2 hov)]
              · exact (((((hres1.other (by omega) _ _).other (by omega) _ _).other (by omega) _ _).other (by omega) _ _).other (by omega) _ _).other (by omega) _ _
              · exact (((((hout1.set 0 _).set 1 _).set 2 _).set 3 _).set 4 _).set 5 _
              · exact (by repeat (first | (with_reducible exact Below.refl _ _) | (with_reducible exact Below.refl _ _) | (with_reducible refine Below.setCell ?_ (by first | omega | (simp; done) | (simp; omega)) _) | (with_reducible refine Below.alloc ?_ (by first | omega | (simp; done) | (simp; omega)) _) | (with_reducible refine Below.drew ?_) | (with_reducible refine below_drewN ?_ _) | (with_reducible refine Below.trans ?_ (bel1.mono (by first | omega | (simp; done) | (simp; omega))))))
            case measure => have := HL.out; simp [intOf]; omega
        · have hkl : k = l.length := by omega
          subst hkl
          have hj : joined l = (acc, 0) := by
            unfold joined
            rw [if_pos HA.out, hacc, List.drop_length]
            rfl
          have HJ := Lib.hid hj; clear hj
          clear hacc hk hlt hfine
          go_wp2
          rw [Exit.noGoto_ret]
          refine bodyPost_ret (v := .tuple #[.agg #[.int .i64 acc.c, .int .i64 acc.n, .int .i64 (hi acc.s), .int .u64 (lo acc.s), .int .i64 acc.l, .int .i64 acc.m], .int .i64 0]) (by simp [results, Tryd.results14, go_sem, lr, r0, r1, r2, r3, r4, r5]) rfl ⟨by rw [HJ.out]; rfl, ?_⟩
          exact (by repeat (first | (with_reducible exact Below.refl _ _) | (with_reducible exact Below.refl _ _) | (with_reducible refine Below.setCell ?_ (by first | omega | (simp; done) | (simp; omega)) _) | (with_reducible refine Below.alloc ?_ (by first | omega | (simp; done) | (simp; omega)) _) | (with_reducible refine Below.drew ?_) | (with_reducible refine below_drewN ?_ _) | (with_reducible refine Below.trans ?_ (hbel.mono (by first | omega | (simp; done) | (simp; omega))))))

/-- The same, the length a number of its own. -/
theorem Tryd_Join' (b o n cap : Nat) (l : List Red) (w : World) (hn : l.length = n) (hl : (n : Int) ≤ 9223372036854775807) (hb : b < w.heap.size) (hr : TrydRedsAt w b o l) (hf : ∀ r ∈ l, r.fits) :
    Calls Tryd.prog 14 #[.slice (some ⟨b, o, none⟩) n cap] w fun e w' =>
      e = .returned (.tuple #[.agg (joined l).1.cells.toArray, .int .i64 (joined l).2]) ∧ Below w.heap.size w w' := by
  subst hn
  exact Tryd_Join b o cap l w hl hb hr hf

theorem Tryd_reds_tail {W : World} {b o : Nat} {x : Red} {l : List Red} (h : TrydRedsAt W b o (x :: l)) : TrydRedsAt W b (o + 6) l := fun k r hk j v hj => by
  have := h (k + 1) r (by simpa using hk) j v hj
  rwa [show o + (k + 1) * 6 + j = o + 6 + k * 6 + j by omega] at this
theorem Tryd_reds_cells {W : World} {b : Nat} : ∀ (l : List Red) (o : Nat), TrydRedsAt W b o l → ∀ (j : Nat) (u : Value), (l.flatMap Red.cells)[j]? = some u → W.cell? ⟨b, o + j, none⟩ = some u
  | [], _, _, j, u, h => by simp at h
  | x :: l, o, hr, j, u, h => by
    rw [List.flatMap_cons] at h
    have hx : x.cells.length = 6 := rfl
    by_cases hj : j < 6
    · rw [List.getElem?_append_left (by rw [hx]; exact hj)] at h
      have := hr 0 x rfl j u h
      rwa [show o + 0 * 6 + j = o + j by omega] at this
    · rw [List.getElem?_append_right (by rw [hx]; omega), hx] at h
      have := Tryd_reds_cells l (o + 6) (Tryd_reds_tail hr) (j - 6) u h
      rwa [show o + 6 + (j - 6) = o + j by omega] at this
theorem Tryd_reds_len (l : List Red) : (l.flatMap Red.cells).length = l.length * 6 := by
  induction l with
  | nil => rfl
  | cons x l ih => rw [List.flatMap_cons, List.length_append, ih, List.length_cons]; simp [Red.cells]; omega
theorem Tryd_reds_one (l : List Red) : ∀ u ∈ l.flatMap Red.cells, u.oneCell' = true := by
  intro u hu
  obtain ⟨r, _, hr⟩ := List.mem_flatMap.1 hu
  simp [Red.cells] at hr
  rcases hr with rfl | rfl | rfl | rfl | rfl | rfl <;> rfl
theorem Tryd_reds_take {W : World} {b o : Nat} {l : List Red} (k : Nat) (h : TrydRedsAt W b o l) : TrydRedsAt W b o (l.take k) := fun i r hi j v hj =>
  h i r (by rw [List.getElem?_take] at hi; split at hi <;> simp_all) j v hj
theorem Tryd_reds_below {W W' : World} {B b o : Nat} {l : List Red} (h : TrydRedsAt W b o l) (hb : Below B W W') (hlt : b < B) : TrydRedsAt W' b o l := fun i r hi j v hj => by
  rw [hb.cell (p := ⟨b, o + i * 6 + j, none⟩) hlt]; exact h i r hi j v hj
/-- What an append of reductions has made. -/
theorem Tryd_reds_own {W : World} {B n : Nat} {v : Value} {l : List Red} (h : W.ownsRow B 30 6 v n (l.flatMap Red.cells)) (hn : 0 < n) :
    ∃ g cap, v = .slice (some ⟨g, 0, none⟩) n cap ∧ B ≤ g ∧ g < W.heap.size ∧ n ≤ cap ∧ TrydRedsAt W g 0 l := by
  rcases h.2 with ⟨_, h0⟩ | ⟨g, cap, cur, hv, hg, hh, hc, _⟩
  · omega
  · refine ⟨g, cap, hv, hg, (Array.getElem?_eq_some_iff.1 hh).1, hc, fun k r hk j u hj => ?_⟩
    have := h.cells (g := g) (by rw [hv]; rfl) _ _ (Tryd_reds_flat l k r hk j u hj)
    rw [Addr.add_mid] at this
    rw [Nat.add_assoc]
    exact this
theorem below_grown {w w' : World} (h : w.grownBy w' Option.none) : Below w.heap.size w w' := ⟨h.os, h.tape, h.output, h.size, fun k hk => h.block k hk (fun e => by cases e)⟩
end Go.Proofs.YtmcmknndhppljaaDoor

namespace Go.Proofs.YtmcmknndhppljaaDoor
set_option linter.unusedVariables false
set_option linter.unusedSimpArgs false
open Go.RowKit Go.Dav
attribute [local go_sem] Gives ite_val ite_val_true

set_option maxRecDepth 8000 in
set_option maxHeartbeats 8000000 in
theorem Tryd_wakes (w : World) : Calls Tryd.prog 12 #[] w fun e w' => e = .returned (.bool true) ∧ Below w.heap.size w w' := by
  go_enter Tryd.func12, Tryd.ntmps12
  go_wp2_with fail
  refine (Tryd_row _ _ (by unfold I64; omega)).mono ?_; rintro e w1 ⟨rfl, hb1⟩
  have s1 := hb1.size
  go_wp2_with fail
  refine (Tryd_One_no _ _ _ _ rfl rfl).mono ?_; rintro e w2 ⟨rfl, hb2⟩
  have s2 := hb2.size
  go_wp2_with fail
  refine (Tryd_row _ _ (by unfold I64; omega)).mono ?_; rintro e w3 ⟨rfl, hb3⟩
  have s3 := hb3.size
  go_wp2_with fail
  have r1 : TrydRedsAt (w3.alloc (.cells #[.int .i64 1, .int .i64 1, .int .i64 (hi (-1)), .int .u64 (lo (-1)), .int .i64 (-1), .int .i64 (-1), .int .i64 1, .int .i64 0, .int .i64 (hi 0), .int .u64 (lo 0), .int .i64 0, .int .i64 0,
      .int .i64 1, .int .i64 1, .int .i64 (hi 3), .int .u64 (lo 3), .int .i64 3, .int .i64 3] 30)) w3.heap.size 0 [⟨1, 1, -1, -1, -1⟩, ⟨1, 0, 0, 0, 0⟩, ⟨1, 1, 3, 3, 3⟩] :=
    Tryd_RedsAt_flat (Blk.new _ [_, _, _, _, _, _, _, _, _, _, _, _, _, _, _, _, _, _] _) rfl
  have j1 : joined [⟨1, 1, -1, -1, -1⟩, ⟨1, 0, 0, 0, 0⟩, ⟨1, 1, 3, 3, 3⟩] = (⟨3, 2, 2, -1, 3⟩, 0) := by kernel_rfl
  have R1 := Lib.hid r1; clear r1
  have J1 := Lib.hid j1; clear j1
  (with_reducible refine (Tryd_Join' w3.heap.size 0 3 3 [⟨1, 1, -1, -1, -1⟩, ⟨1, 0, 0, 0, 0⟩, ⟨1, 1, 3, 3, 3⟩] _ rfl (by omega) (by simp) R1.out (by simp [Red.fits, I64])).mono ?_)
  rintro e w4 ⟨rfl, hb4⟩
  have s4 := hb4.size
  rw [J1.out]
  simp only [Red.cells]
  go_wp2_with fail
  have j2 : joined [⟨3, 2, 2, -1, 3⟩, ⟨1073741824, 0, 0, 0, 0⟩] = (Red.zero, 5) := by kernel_rfl
  have J2 := Lib.hid j2; clear j2
  (with_reducible refine (Tryd_Join' (w4.heap.size + 1) 0 2 2 [⟨3, 2, 2, -1, 3⟩, ⟨1073741824, 0, 0, 0, 0⟩] _ rfl (by omega) ?b2 ?r2 (by simp [Red.fits, I64])).mono ?_)
  case b2 => simp
  case r2 => exact Tryd_RedsAt_flat (Blk.new' _ [_, _, _, _, _, _, _, _, _, _, _, _] _ (by simp)) (by simp [Red.cells, hi_zero, lo_zero])
  rintro e w5 ⟨rfl, hb5⟩
  have s5 := hb5.size
  simp at s5
  obtain ⟨hc5, hf5, _⟩ := after hb5
  have lt_w5_0_0 : w4.heap.size < w5.heap.size := by omega
  have lt_w5_0_1 : w4.heap.size < w5.heap.size + 1 := by omega
  rw [J2.out]
  simp only [Red.cells, Red.zero]
  go_wp2_with fail
  have t1 : fitsB 2 = true := by decide +kernel
  have T1 := Lib.hid t1; clear t1
  (with_reducible refine (Tryd_Tell_sum_yes ⟨3, 2, 2, -1, 3⟩ _ (by decide +kernel) (by simp [I64]) (by simp [I64]) T1.out).mono ?_)
  rintro e w6 ⟨rfl, hb6⟩
  have s6 := hb6.size
  simp at s6
  obtain ⟨hc6, hf6, _⟩ := after hb6
  have lt_w6_0_0 : w4.heap.size < w6.heap.size := by omega
  have lt_w6_0_1 : w4.heap.size < w6.heap.size + 1 := by omega
  have lt_w6_1_0 : w5.heap.size < w6.heap.size := by omega
  have lt_w6_1_1 : w5.heap.size < w6.heap.size + 1 := by omega
  go_wp2_with fail
  refine (Tryd_row _ _ (by unfold I64; omega)).mono ?_; rintro e w7 ⟨rfl, hb7⟩
  have s7 := hb7.size
  simp at s7
  obtain ⟨hc7, hf7, _⟩ := after hb7
  have lt_w7_0_0 : w4.heap.size < w7.heap.size := by omega
  have lt_w7_0_1 : w4.heap.size < w7.heap.size + 1 := by omega
  have lt_w7_1_0 : w5.heap.size < w7.heap.size := by omega
  have lt_w7_1_1 : w5.heap.size < w7.heap.size + 1 := by omega
  have lt_w7_2_0 : w6.heap.size < w7.heap.size := by omega
  have lt_w7_2_1 : w6.heap.size < w7.heap.size + 1 := by omega
  go_wp2_with fail
  refine (Tryd_row _ _ (by unfold I64; omega)).mono ?_; rintro e w8 ⟨rfl, hb8⟩
  have s8 := hb8.size
  obtain ⟨hc8, hf8, _⟩ := after hb8
  have lt_w8_0_0 : w4.heap.size < w8.heap.size := by omega
  have lt_w8_0_1 : w4.heap.size < w8.heap.size + 1 := by omega
  have lt_w8_1_0 : w5.heap.size < w8.heap.size := by omega
  have lt_w8_1_1 : w5.heap.size < w8.heap.size + 1 := by omega
  have lt_w8_2_0 : w6.heap.size < w8.heap.size := by omega
  have lt_w8_2_1 : w6.heap.size < w8.heap.size + 1 := by omega
  go_wp2_with fail
  have j3 : joined [⟨1, 1, 9223372036854775807, 9223372036854775807, 9223372036854775807⟩, ⟨1, 1, 9223372036854775807, 9223372036854775807, 9223372036854775807⟩] = (⟨2, 2, 18446744073709551614, 9223372036854775807, 9223372036854775807⟩, 0) := by kernel_rfl
  have J3 := Lib.hid j3; clear j3
  (with_reducible refine (Tryd_Join' w8.heap.size 0 2 2 [⟨1, 1, 9223372036854775807, 9223372036854775807, 9223372036854775807⟩, ⟨1, 1, 9223372036854775807, 9223372036854775807, 9223372036854775807⟩] _ rfl (by omega) ?b3 ?r3 (by simp [Red.fits, I64])).mono ?_)
  case b3 => simp
  case r3 => exact Tryd_RedsAt_flat (Blk.new _ [_, _, _, _, _, _, _, _, _, _, _, _] _) rfl
  rintro e w9 ⟨rfl, hb9⟩
  have s9 := hb9.size
  simp at s9
  obtain ⟨hc9, hf9, _⟩ := after hb9
  have lt_w9_0_0 : w4.heap.size < w9.heap.size := by omega
  have lt_w9_0_1 : w4.heap.size < w9.heap.size + 1 := by omega
  have lt_w9_1_0 : w5.heap.size < w9.heap.size := by omega
  have lt_w9_1_1 : w5.heap.size < w9.heap.size + 1 := by omega
  have lt_w9_2_0 : w6.heap.size < w9.heap.size := by omega
  have lt_w9_2_1 : w6.heap.size < w9.heap.size + 1 := by omega
  rw [J3.out]
  simp only [Red.cells]
  go_wp2_with fail
  have t2 : fitsB 18446744073709551614 = false := by decide +kernel
  have T2 := Lib.hid t2; clear t2
  (with_reducible refine (Tryd_Tell_sum_no ⟨2, 2, 18446744073709551614, 9223372036854775807, 9223372036854775807⟩ _ (by decide +kernel) (by simp [I64]) (by simp [I64]) T2.out).mono ?_)
  rintro e w10 ⟨rfl, hb10⟩
  have s10 := hb10.size
  simp at s10
  obtain ⟨hc10, hf10, _⟩ := after hb10
  have lt_w10_0_0 : w4.heap.size < w10.heap.size := by omega
  have lt_w10_0_1 : w4.heap.size < w10.heap.size + 1 := by omega
  have lt_w10_1_0 : w5.heap.size < w10.heap.size := by omega
  have lt_w10_1_1 : w5.heap.size < w10.heap.size + 1 := by omega
  have lt_w10_2_0 : w6.heap.size < w10.heap.size := by omega
  have lt_w10_2_1 : w6.heap.size < w10.heap.size + 1 := by omega
  have lt_w10_3_0 : w9.heap.size < w10.heap.size := by omega
  have lt_w10_3_1 : w9.heap.size < w10.heap.size + 1 := by omega
  go_wp2_with fail
  have ch := Tryd_mCheck ⟨1, 1, 5, 4, 5⟩
  simp only [show hi 5 = 0 from by decide +kernel, show lo 5 = 5 from by decide +kernel, show redE (Red.ok ⟨1, 1, 5, 4, 5⟩) = 230 from by decide +kernel] at ch
  (with_reducible refine (ch _ (by simp [I64]) (by simp [I64])).mono ?_)
  clear ch
  rintro e w11 ⟨rfl, hb11⟩
  have s11 := hb11.size
  simp at s11
  obtain ⟨hc11, hf11, _⟩ := after hb11
  have lt_w11_0_0 : w4.heap.size < w11.heap.size := by omega
  have lt_w11_0_1 : w4.heap.size < w11.heap.size + 1 := by omega
  have lt_w11_1_0 : w5.heap.size < w11.heap.size := by omega
  have lt_w11_1_1 : w5.heap.size < w11.heap.size + 1 := by omega
  have lt_w11_2_0 : w6.heap.size < w11.heap.size := by omega
  have lt_w11_2_1 : w6.heap.size < w11.heap.size + 1 := by omega
  have lt_w11_3_0 : w9.heap.size < w11.heap.size := by omega
  have lt_w11_3_1 : w9.heap.size < w11.heap.size + 1 := by omega
  have lt_w11_4_0 : w10.heap.size < w11.heap.size := by omega
  have lt_w11_4_1 : w10.heap.size < w11.heap.size + 1 := by omega
  go_wp2_with fail
  have kd := Tryd_Kind ⟨#[95, 115, 117, 109]⟩
  simp only [show TrydKindOf (ByteArray.toList ⟨#[95, 115, 117, 109]⟩) = (2, 0) from by decide +kernel] at kd
  (with_reducible refine (kd _).mono ?_)
  clear kd
  rintro e w12 ⟨rfl, hb12⟩
  have s12 := hb12.size
  obtain ⟨hc12, hf12, _⟩ := after hb12
  have lt_w12_0_0 : w4.heap.size < w12.heap.size := by omega
  have lt_w12_0_1 : w4.heap.size < w12.heap.size + 1 := by omega
  have lt_w12_1_0 : w5.heap.size < w12.heap.size := by omega
  have lt_w12_1_1 : w5.heap.size < w12.heap.size + 1 := by omega
  have lt_w12_2_0 : w6.heap.size < w12.heap.size := by omega
  have lt_w12_2_1 : w6.heap.size < w12.heap.size + 1 := by omega
  have lt_w12_3_0 : w9.heap.size < w12.heap.size := by omega
  have lt_w12_3_1 : w9.heap.size < w12.heap.size + 1 := by omega
  have lt_w12_4_0 : w10.heap.size < w12.heap.size := by omega
  have lt_w12_4_1 : w10.heap.size < w12.heap.size + 1 := by omega
  have sg2 : sg 2 = 2 := by decide +kernel
  have hi2 : hi 2 = 0 := by decide +kernel
  have lo2 : lo 2 = 2 := by decide +kernel
  go_wp2_with fail
  go_ret
  refine ⟨rfl, ?_⟩
  simp only [World.size_alloc, World.size_setCell, World.size_drew] at s1 s2 s3 s4 s5 s6 s7 s8 s9 s10 s11 s12
  exact (by repeat (first | (with_reducible exact Below.refl _ _) | (with_reducible exact Below.refl _ _) | (with_reducible refine Below.setCell ?_ (by first | omega | (simp; done) | (simp; omega)) _) | (with_reducible refine Below.alloc ?_ (by first | omega | (simp; done) | (simp; omega)) _) | (with_reducible refine Below.drew ?_) | (with_reducible refine below_drewN ?_ _) | (with_reducible refine Below.trans ?_ (hb12.mono (by first | omega | (simp; done) | (simp; omega)))) | (with_reducible refine Below.trans ?_ (hb11.mono (by first | omega | (simp; done) | (simp; omega)))) | (with_reducible refine Below.trans ?_ (hb10.mono (by first | omega | (simp; done) | (simp; omega)))) | (with_reducible refine Below.trans ?_ (hb9.mono (by first | omega | (simp; done) | (simp; omega)))) | (with_reducible refine Below.trans ?_ (hb8.mono (by first | omega | (simp; done) | (simp; omega)))) | (with_reducible refine Below.trans ?_ (hb7.mono (by first | omega | (simp; done) | (simp; omega)))) | (with_reducible refine Below.trans ?_ (hb6.mono (by first | omega | (simp; done) | (simp; omega)))) | (with_reducible refine Below.trans ?_ (hb5.mono (by first | omega | (simp; done) | (simp; omega)))) | (with_reducible refine Below.trans ?_ (hb4.mono (by first | omega | (simp; done) | (simp; omega)))) | (with_reducible refine Below.trans ?_ (hb3.mono (by first | omega | (simp; done) | (simp; omega)))) | (with_reducible refine Below.trans ?_ (hb2.mono (by first | omega | (simp; done) | (simp; omega)))) | (with_reducible refine Below.trans ?_ (hb1.mono (by first | omega | (simp; done) | (simp; omega))))))
end Go.Proofs.YtmcmknndhppljaaDoor
