/-
  MonoidJoins of no reduction at all, walked.
-/
import Derived.Test.YtdebmifjfemcjaaMonLawB
namespace Go.Proofs.Ytdebmifjfemcjaa
set_option linter.unusedVariables false
set_option linter.unusedSimpArgs false
open Go.RowKit Go.Dav
attribute [local go_sem] Gives ite_val ite_val_true

theorem Try_reds_nil (W : World) (b o : Nat) : TryRedsAt W b o [] := fun k r hk => by simp at hk

set_option maxRecDepth 8000 in
set_option maxHeartbeats 4000000 in
theorem Try_MonoidJoins_none (a : Option Addr) (cap : Nat) (w : World) (hcap : a = none → cap = 0) :
    Calls Try.prog 4 #[.slice a 0 cap] w fun e w' => e = .returned (.bool true) ∧ Below w.heap.size w w' := by
  clear hcap
  have hi1 : (0 : Int) ≤ (cap : Int) := by omega
  have z1 := hi_zero
  have z2 := lo_zero
  have hj : joined [] = (Red.zero, 0) := rfl
  have HJ := Lib.hid hj; clear hj
  cases a with
  | none =>
    go_enter Try.func4, Try.ntmps4
    go_wp2_with fail
    refine (Try_wakes _).mono ?_; rintro e w1 ⟨rfl, hb1⟩
    have s1 := hb1.size
    go_wp2_with fail
    (with_reducible refine (Try_Join' w1.heap.size 0 0 0 [] _ rfl (by omega) (by simp) (Try_reds_nil _ _ _) (by simp)).mono ?_)
    rintro e w3 ⟨rfl, hb3⟩
    have s3 := hb3.size
    simp only [World.size_alloc] at s3
    rw [HJ.out]
    simp only [Red.cells, Red.zero]
    go_wp2_with fail
    refine wp_loop_rounds 1 ?_
    rw [rounds_succ]
    go_wp2_with fail
    refine wp_loop_rounds 1 ?_
    rw [rounds_succ]
    go_wp2
    go_ret
    exact ⟨rfl, (by repeat (first | (with_reducible exact Below.refl _ _) | (with_reducible exact Below.refl _ _) | (with_reducible refine Below.setCell ?_ (by first | omega | (simp; done) | (simp; omega)) _) | (with_reducible refine Below.alloc ?_ (by first | omega | (simp; done) | (simp; omega)) _) | (with_reducible refine Below.drew ?_) | (with_reducible refine Below.trans ?_ (hb3.mono (by first | omega | (simp; done) | (simp; omega)))) | (with_reducible refine Below.trans ?_ (hb1.mono (by first | omega | (simp; done) | (simp; omega))))))⟩
  | some a =>
    go_enter Try.func4, Try.ntmps4
    go_wp2_with fail
    refine (Try_wakes _).mono ?_; rintro e w1 ⟨rfl, hb1⟩
    have s1 := hb1.size
    go_wp2_with fail
    (with_reducible refine (Try_Join' w1.heap.size 0 0 0 [] _ rfl (by omega) (by simp) (Try_reds_nil _ _ _) (by simp)).mono ?_)
    rintro e w3 ⟨rfl, hb3⟩
    have s3 := hb3.size
    simp only [World.size_alloc] at s3
    rw [HJ.out]
    simp only [Red.cells, Red.zero]
    go_wp2_with fail
    refine wp_loop_rounds 1 ?_
    rw [rounds_succ]
    go_wp2_with fail
    refine wp_loop_rounds 1 ?_
    rw [rounds_succ]
    go_wp2
    go_ret
    exact ⟨rfl, (by repeat (first | (with_reducible exact Below.refl _ _) | (with_reducible exact Below.refl _ _) | (with_reducible refine Below.setCell ?_ (by first | omega | (simp; done) | (simp; omega)) _) | (with_reducible refine Below.alloc ?_ (by first | omega | (simp; done) | (simp; omega)) _) | (with_reducible refine Below.drew ?_) | (with_reducible refine Below.trans ?_ (hb3.mono (by first | omega | (simp; done) | (simp; omega)))) | (with_reducible refine Below.trans ?_ (hb1.mono (by first | omega | (simp; done) | (simp; omega))))))⟩

end Go.Proofs.Ytdebmifjfemcjaa
