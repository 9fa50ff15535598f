/-
  The sums of layer 13, walked: of, plus, above, fits, total, with: what each returns, and that nothing that was there is written.
-/
import Derived.Test.YtdebmifjfemcjaaProg
import Derived.Test.YtdebmifjfemcjaaParts
import Derived.Test.YtdebmifjfemcjaaMonSum
import Derived.WalkKit
import Derived.WalkSpells
import Derived.WalkLawsBesides
import Derived.Lib.Hide
namespace Go.Proofs.Ytdebmifjfemcjaa
set_option linter.unusedVariables false
set_option linter.unusedSimpArgs false
open Go.RowKit Go.Dav
attribute [local go_sem] Gives ite_val ite_val_true

theorem Try_of (n : Int) (w : World) (h : I64 n) :
    Calls Try.prog 26 #[.int .i64 n] w fun e w' => e = .returned (.agg #[.int .i64 (hi n), .int .u64 (lo n)]) ∧ Below w.heap.size w w' := by
  have e1 := hi_of h
  have e2 := lo_of n
  have H := Lib.hid e1; clear e1
  have H2 := Lib.hid e2; clear e2
  clear h
  go_enter Try.func26, Try.ntmps26
  go_wp2
  refine bodyPost_ret (v := .agg #[.int .i64 (hi n), .int .u64 (lo n)]) (by simp [results, Try.results26, go_sem, H.out, H2.out]) rfl ⟨rfl, ?_⟩
  exact (Below.refl _ _).alloc (Nat.le_refl _) _

theorem Try_plus (x y : Int) (w : World) :
    Calls Try.prog 41 #[.agg #[.int .i64 (hi x), .int .u64 (lo x)], .agg #[.int .i64 (hi y), .int .u64 (lo y)]] w fun e w' =>
      e = .returned (.agg #[.int .i64 (hi (x + y)), .int .u64 (lo (x + y))]) ∧ Below w.heap.size w w' := by
  have el := lo_add x y
  by_cases h : lo (x + y) < lo x
  · have e1 := hi_add_yes x y ((carry x y).1 h)
    go_enter Try.func41, Try.ntmps41
    go_wp2
    refine bodyPost_ret (v := .agg #[.int .i64 (hi (x + y)), .int .u64 (lo (x + y))]) (by simp [results, Try.results41, go_sem]) rfl ⟨rfl, ?_⟩
    exact (((Below.refl _ _).alloc (Nat.le_refl _) _).alloc (by simp) _).alloc (by simp; omega) _
  · have e1 := hi_add_no x y (fun hc => h ((carry x y).2 hc))
    go_enter Try.func41, Try.ntmps41
    go_wp2
    refine bodyPost_ret (v := .agg #[.int .i64 (hi (x + y)), .int .u64 (lo (x + y))]) (by simp [results, Try.results41, go_sem]) rfl ⟨rfl, ?_⟩
    exact (((Below.refl _ _).alloc (Nat.le_refl _) _).alloc (by simp) _).alloc (by simp; omega) _

theorem Try_above (x y : Int) (w : World) :
    Calls Try.prog 28 #[.agg #[.int .i64 (hi x), .int .u64 (lo x)], .agg #[.int .i64 (hi y), .int .u64 (lo y)]] w fun e w' =>
      e = .returned (.bool (aboveB x y)) ∧ Below w.heap.size w w' := by
  have hx := lo_bd x
  have hy := lo_bd y
  have key : aboveB x y = (decide (hi y < hi x) || (decide (hi x = hi y) && decide (lo y < lo x))) := by
    unfold aboveB sg
    rw [Bool.eq_iff_iff]; simp; omega
  rw [key]
  have H := Lib.hid hx; clear hx
  have H2 := Lib.hid hy; clear hy
  clear key H H2
  generalize hi x = a
  generalize hi y = b
  generalize lo x = c
  generalize lo y = d
  by_cases g1 : b < a
  · go_enter Try.func28, Try.ntmps28
    go_wp2
    go_ret
    exact ⟨by simp [g1], ((Below.refl _ _).alloc (Nat.le_refl _) _).alloc (by simp) _⟩
  · by_cases g2 : a = b
    · subst g2
      go_enter Try.func28, Try.ntmps28
      go_wp2
      go_ret
      exact ⟨by simp, ((Below.refl _ _).alloc (Nat.le_refl _) _).alloc (by simp) _⟩
    · have g3 : (a == b) = false := by simpa using g2
      go_enter Try.func28, Try.ntmps28
      go_wp2
      go_ret
      exact ⟨by simp [g1], ((Below.refl _ _).alloc (Nat.le_refl _) _).alloc (by simp) _⟩

theorem Try_total (c n s l m : Int) (w : World) :
    Calls Try.prog 25 #[.agg #[.int .i64 c, .int .i64 n, .int .i64 (hi s), .int .u64 (lo s), .int .i64 l, .int .i64 m]] w fun e w' =>
      e = .returned (.agg #[.int .i64 (hi s), .int .u64 (lo s)]) ∧ Below w.heap.size w w' := by
  go_enter Try.func25, Try.ntmps25
  go_wp2
  refine bodyPost_ret (v := .agg #[.int .i64 (hi s), .int .u64 (lo s)]) (by simp [results, Try.results25, go_sem]) rfl ⟨rfl, ?_⟩
  exact ((Below.refl _ _).alloc (Nat.le_refl _) _).alloc (by simp) _

theorem Try_with (c n h l0 l m s : Int) (w : World) :
    Calls Try.prog 34 #[.agg #[.int .i64 c, .int .i64 n, .int .i64 h, .int .u64 l0, .int .i64 l, .int .i64 m], .agg #[.int .i64 (hi s), .int .u64 (lo s)]] w fun e w' =>
      e = .returned (.agg #[.int .i64 c, .int .i64 n, .int .i64 (hi s), .int .u64 (lo s), .int .i64 l, .int .i64 m]) ∧ Below w.heap.size w w' := by
  go_enter Try.func34, Try.ntmps34
  go_wp2
  go_region
  go_wp2
  refine bodyPost_ret (v := .agg #[.int .i64 c, .int .i64 n, .int .i64 (hi s), .int .u64 (lo s), .int .i64 l, .int .i64 m]) (by simp [results, Try.results34, go_sem]) rfl ⟨rfl, ?_⟩
  exact ((((Below.refl _ _).alloc (Nat.le_refl _) _).alloc (by simp) _).alloc (by simp; omega) _).drew

theorem Try_fits (s : Int) (w : World) :
    Calls Try.prog 53 #[.agg #[.int .i64 (hi s), .int .u64 (lo s)]] w fun e w' =>
      e = .returned (.bool (fitsB s)) ∧ Below w.heap.size w w' := by
  have key := fits_key s
  have hb1 := i64_wrap_bd (lo s)
  have K := Lib.hid key; clear key
  go_enter Try.func53, Try.ntmps53
  go_wp2_with fail
  refine' wp_region_seq [.inl _, .inl _, .inl _, .inl _, .inl _, .inl _, .inl _, .inl _] (by kernel_rfl) (by kernel_rfl) ?main1
  case main1 =>
    refine wpParts_det (by rfl) (fun W hE hN => ?_) ?_
    · have hc := fun b o h => hE.cell (p := ⟨b, o, none⟩) h
      go_simp; refine ⟨Below.refl _ _, ?_⟩; rfl
    simp only [Act.put, List.setIfInBounds_toArray, List.set_cons_zero, List.set_cons_succ]
    refine wpParts_det (by rfl) (fun W hE hN => ?_) ?_
    · go_simp; refine ⟨Below.refl _ _, ?_⟩; rfl
    simp only [Act.put, List.setIfInBounds_toArray, List.set_cons_zero, List.set_cons_succ]
    refine wpParts_det (by rfl) (fun W hE hN => ?_) ?_
    · go_simp; refine ⟨Below.refl _ _, ?_⟩; rfl
    simp only [Act.put, List.setIfInBounds_toArray, List.set_cons_zero, List.set_cons_succ]
    refine wpParts_det (by rfl) (fun W hE hN => ?_) ?_
    · have hc := fun b o h => hE.cell (p := ⟨b, o, none⟩) h
      go_simp; refine ⟨Below.refl _ _, ?_⟩; rfl
    simp only [Act.put, List.setIfInBounds_toArray, List.set_cons_zero, List.set_cons_succ]
    refine wpParts_det (by rfl) (fun W hE hN => ?_) ?_
    · go_simp; refine ⟨Below.refl _ _, ?_⟩; rfl
    simp only [Act.put, List.setIfInBounds_toArray, List.set_cons_zero, List.set_cons_succ]
    refine wpParts_det (by rfl) (fun W hE hN => ?_) ?_
    · go_simp; refine ⟨Below.refl _ _, ?_⟩; refine (Try_of _ _ hb1).mono ?_; rintro e w' ⟨rfl, hb⟩; refine ⟨?_, hb⟩; rfl
    simp only [Act.put, List.setIfInBounds_toArray, List.set_cons_zero, List.set_cons_succ]
    refine wpParts_det (by rfl) (fun W hE hN => ?_) ?_
    · go_simp; refine ⟨Below.refl _ _, ?_⟩; rfl
    simp only [Act.put, List.setIfInBounds_toArray, List.set_cons_zero, List.set_cons_succ]
    refine wpParts_det (by rfl) (fun W hE hN => ?_) ?_
    · go_simp; refine ⟨Below.refl _ _, ?_⟩; rfl
    simp only [Act.put, List.setIfInBounds_toArray, List.set_cons_zero, List.set_cons_succ]
    refine wpParts_end fun W1 hE1 hG1 => ?_
    have hcW1 := fun b o h => hE1.cell (p := ⟨b, o, none⟩) h
    have hfW1 := fun b o h => hE1.frozen (p := ⟨b, o, none⟩) h
    go_wp2
    go_ret
    exact ⟨ret_bool K.out, ext_trans ((Below.refl _ _).alloc (Nat.le_refl _) _) hE1⟩
end Go.Proofs.Ytdebmifjfemcjaa
