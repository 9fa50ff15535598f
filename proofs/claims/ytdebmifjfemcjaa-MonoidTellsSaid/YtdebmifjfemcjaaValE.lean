/-
  The reference of layer 4: Same, walked.
-/
import Derived.Test.YtdebmifjfemcjaaValD
namespace Go.Proofs.Ytdebmifjfemcjaa
set_option linter.unusedVariables false
set_option linter.unusedSimpArgs false
open Go.RowKit Go.Dav
attribute [local go_sem] Gives ite_val ite_val_true

set_option maxRecDepth 8000 in
set_option maxHeartbeats 4000000 in
theorem Try_rSame (d e : Nat) (x : ValN d) (y : ValN e) (v u : Value) (w : World) (hx : ValAt w d v x) (hy : ValAt w e u y) :
    Calls Try.prog 23 #[v, u] w fun e' w' => e' = .returned (.bool (sameV d e x y)) ∧ Below w.heap.size w w' := by
  have HX := Lib.hid hx
  have HY := Lib.hid hy
  obtain ⟨d', rfl⟩ : ∃ d', d = d' + 1 := by
    cases d with
    | zero => exact hx.elim
    | succ d => exact ⟨d, rfl⟩
  obtain ⟨e', rfl⟩ : ∃ d', e = d' + 1 := by
    cases e with
    | zero => exact hy.elim
    | succ d => exact ⟨d, rfl⟩
  obtain ⟨ka, kl, kc, qa, ql, qc, h⟩ := hx
  obtain ⟨ma, ml, mc, ra, rl, rc, g⟩ := hy
  have hv := h.val
  have hu := g.val
  subst hv hu
  clear h g
  obtain ⟨kind, hkd⟩ : ∃ k, x.to.kind = k := ⟨_, rfl⟩
  obtain ⟨n, hn⟩ : ∃ k, x.to.n = k := ⟨_, rfl⟩
  obtain ⟨s, hs⟩ : ∃ k, x.to.s = k := ⟨_, rfl⟩
  obtain ⟨kind', hkd'⟩ : ∃ k, y.to.kind = k := ⟨_, rfl⟩
  obtain ⟨n', hn'⟩ : ∃ k, y.to.n = k := ⟨_, rfl⟩
  obtain ⟨s', hs'⟩ : ∃ k, y.to.s = k := ⟨_, rfl⟩
  rw [hkd, hn, hs] at HX ⊢
  rw [hkd', hn', hs'] at HY ⊢
  clear hkd hn hs hkd' hn' hs'
  obtain ⟨W0, hW0⟩ : ∃ W0, (w.alloc (.cells #[.int .i64 kind, .int .i64 n, .string s, .slice ka kl kc, .slice qa ql qc] 51)).alloc (.cells #[.int .i64 kind', .int .i64 n', .string s', .slice ma ml mc, .slice ra rl rc] 51) = W0 := ⟨_, rfl⟩
  have bel0 : Below w.heap.size w W0 := by rw [← hW0]; exact (by repeat (first | (with_reducible exact Below.refl _ _) | (with_reducible exact Below.refl _ _) | (with_reducible refine Below.setCell ?_ (by first | omega | (simp; done) | (simp; omega)) _) | (with_reducible refine Below.alloc ?_ (by first | omega | (simp; done) | (simp; omega)) _) | (with_reducible refine Below.drew ?_) | (with_reducible refine below_drewN ?_ _)))
  have HB0 := Lib.hid (show Blk W0 w.heap.size [.int .i64 kind, .int .i64 n, .string s, .slice ka kl kc, .slice qa ql qc] 51 by rw [← hW0]; exact (Blk.new _ _ _).alloc _)
  have HC0 := Lib.hid (show Blk W0 (w.heap.size + 1) [.int .i64 kind', .int .i64 n', .string s', .slice ma ml mc, .slice ra rl rc] 51 by rw [← hW0]; exact Blk.new' _ _ _ (by simp))
  have BEL0 := Lib.hid bel0
  have HW0 := Lib.hid hW0
  obtain ⟨r, hr⟩ : ∃ r, sameV (d' + 1) (e' + 1) x y = r := ⟨_, rfl⟩
  rw [hr]
  have HR := Lib.hid hr
  clear bel0 hW0 hr
  go_enter Try.func23, Try.ntmps23
  go_wp2_with fail
  rw [HW0.out]
  refine (Try_rRight (d' + 1) x _ W0 (ValAt.ext BEL0.out _ HX.out)).mono ?_; rintro e1 w1 ⟨rfl, hb1⟩
  have HB1 := Lib.hid (HB0.out.ext hb1)
  have HC1 := Lib.hid (HC0.out.ext hb1)
  have BEL1 := Lib.hid (BEL0.out.trans (hb1.mono BEL0.out.size))
  have q1 := HB1.out.cells
  have l1 := HB1.out.lt
  have q2 := HC1.out.cells
  have l2 := HC1.out.lt
  clear hb1 HB0 HC0 BEL0 HW0
  obtain ⟨rx, hrx⟩ : ∃ r, rightV (d' + 1) x = r := ⟨_, rfl⟩
  have HRX := Lib.hid hrx
  rw [hrx]
  clear hrx
  cases rx with
  | false =>
    have e2 : r = false := by rw [← HR.out]; unfold sameV; rw [HRX.out, Bool.false_and]
    clear HR
    subst e2
    go_wp2
    go_ret
    exact ⟨rfl, BEL1.out⟩
  | true =>
    go_wp2_with fail
    refine (Try_rRight (e' + 1) y _ w1 (ValAt.ext BEL1.out _ HY.out)).mono ?_; rintro e1 w2 ⟨rfl, hb2⟩
    have HB2 := Lib.hid (HB1.out.ext hb2)
    have HC2 := Lib.hid (HC1.out.ext hb2)
    have BEL2 := Lib.hid (BEL1.out.trans (hb2.mono BEL1.out.size))
    clear hb2 q1 l1 q2 l2 HB1 HC1 BEL1
    have q1 := HB2.out.cells
    have l1 := HB2.out.lt
    have q2 := HC2.out.cells
    have l2 := HC2.out.lt
    obtain ⟨ry, hry⟩ : ∃ r, rightV (e' + 1) y = r := ⟨_, rfl⟩
    have HRY := Lib.hid hry
    rw [hry]
    clear hry
    cases ry with
    | false =>
      have e2 : r = false := by rw [← HR.out]; unfold sameV; rw [HRX.out, HRY.out]; rfl
      clear HR
      subst e2
      go_wp2
      go_ret
      exact ⟨rfl, BEL2.out⟩
    | true =>
      have hgx : goodV (d' + 1) x = true := withinV_good _ x 8 256 (by have h := HRX.out; unfold rightV at h; rw [decide_eq_true_eq] at h; omega)
      have hgy : goodV (e' + 1) y = true := withinV_good _ y 8 256 (by have h := HRY.out; unfold rightV at h; rw [decide_eq_true_eq] at h; omega)
      have hA := Try_rOne (d' + 1) (e' + 1) x y _ _ w2 (ValAt.ext BEL2.out _ HX.out) (ValAt.ext BEL2.out _ HY.out) hgx hgy
      rw [show oneV (d' + 1) (e' + 1) x y = r by rw [← HR.out]; unfold sameV; rw [HRX.out, HRY.out, Bool.true_and, Bool.true_and]] at hA
      have HA := Lib.hid hA
      clear hA hgx hgy
      go_wp2_with fail
      refine HA.out.mono ?_; rintro e1 w3 ⟨rfl, hb3⟩
      have BEL3 := Lib.hid (BEL2.out.trans (hb3.mono BEL2.out.size))
      clear hb3 HA
      go_wp2
      go_ret
      exact ⟨rfl, BEL3.out⟩
end Go.Proofs.Ytdebmifjfemcjaa
