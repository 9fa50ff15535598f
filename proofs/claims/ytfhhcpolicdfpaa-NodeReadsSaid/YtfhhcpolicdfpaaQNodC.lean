/-
  The reference of layer 14: Item, walked.
-/
import Derived.Test.YtfhhcpolicdfpaaNdA
namespace Go.Proofs.Ytfhhcpolicdfpaa
set_option linter.unusedVariables false
set_option linter.unusedSimpArgs false
open Go.RowKit Go.Dav
attribute [local go_sem] ite_val ite_val_true

set_option maxRecDepth 8000 in
set_option maxHeartbeats 2000000 in
theorem Try_rItem (x : ItemD) (ka va : Option Addr) (kl kc vl vc : Nat) (w : World) (hk : x.key.length = kl) (hv : x.value.length = vl) :
    Calls Try.prog 43 #[.agg #[.slice ka kl kc, .slice va vl vc, .bool x.int, .int .i64 x.n]] w fun e w' => e = .returned (.bool (itemOk x)) ∧ Below w.heap.size w w' := by
  obtain ⟨key, value, int, n⟩ := x
  dsimp only at *
  obtain ⟨r, hr⟩ : ∃ r, itemOk ⟨key, value, int, n⟩ = r := ⟨_, rfl⟩
  rw [hr]
  unfold itemOk at hr
  dsimp only at hr
  rw [hk, hv] at hr
  have HR := Lib.hid hr
  clear hr hk hv
  cases int with
  | true =>
    go_enter Try.func43, Try.ntmps43
    go_wp2
    all_goals
      go_ret
      refine ⟨?_, (by repeat (first | (with_reducible exact Below.refl _ _) | (with_reducible exact Below.refl _ _) | (with_reducible refine Below.setCell ?_ (by first | omega | (simp; done) | (simp; omega)) _) | (with_reducible refine Below.alloc ?_ (by first | omega | (simp; done) | (simp; omega)) _) | (with_reducible refine Below.drew ?_) | (with_reducible refine below_drewN ?_ _)))⟩
      rw [← HR.out]
      simp [*] <;> first | omega | (rw [Bool.eq_iff_iff]; simp; done) | (rw [Bool.eq_iff_iff]; simp; omega)
  | false =>
    go_enter Try.func43, Try.ntmps43
    go_wp2
    all_goals
      go_ret
      refine ⟨?_, (by repeat (first | (with_reducible exact Below.refl _ _) | (with_reducible exact Below.refl _ _) | (with_reducible refine Below.setCell ?_ (by first | omega | (simp; done) | (simp; omega)) _) | (with_reducible refine Below.alloc ?_ (by first | omega | (simp; done) | (simp; omega)) _) | (with_reducible refine Below.drew ?_) | (with_reducible refine below_drewN ?_ _)))⟩
      rw [← HR.out]
      simp [*] <;> first | omega | (rw [Bool.eq_iff_iff]; simp; done) | (rw [Bool.eq_iff_iff]; simp; omega)
end Go.Proofs.Ytfhhcpolicdfpaa
