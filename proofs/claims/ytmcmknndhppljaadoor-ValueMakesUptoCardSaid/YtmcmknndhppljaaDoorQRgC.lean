/-
  Layer 4, the reference: Len, walked; told.
-/
import Derived.Test.YtmcmknndhppljaaDoorQRgB
import Derived.BigRegion
namespace Go.Proofs.YtmcmknndhppljaaDoor
set_option linter.unusedVariables false
set_option linter.unusedSimpArgs false
open Go.RowKit Go.Dav
attribute [local go_sem] Gives ite_val ite_val_true

set_option maxRecDepth 8000 in
set_option maxHeartbeats 8000000 in
theorem Tryd_rLen (d : Nat) (x : ValN (d + 1)) (v : Value) (w : World) (hv : ValAt w (d + 1) v x) (hr : rightV (d + 1) x = true) :
    Calls Tryd.prog 37 #[v] w fun e w' => e = .returned (.tuple #[.int .i64 (lenV d x).1, .bool (lenV d x).2]) ∧ Below w.heap.size w w' := by
  obtain ⟨ka, kl, kc, qa, ql, qc, h⟩ := hv
  obtain ⟨kind, n, s, kids, keys⟩ := x
  obtain ⟨rfl⟩ : v = .agg #[.int .i64 kind, .int .i64 n, .string s, .slice ka kl kc, .slice qa ql qc] := h.val
  have hlen : kids.length = kl := h.hlen
  have hss : s.size ≤ 17592186044416 := h.hs
  have hal := right_alone hr
  have hleaf : kind < 5 → kl = 0 := fun h5 => by
    have := alone_leaf hal h5
    rw [← hlen, show kids = [] from this]; rfl
  have hhold : ¬ kind < 5 → kind = 5 ∨ kind = 6 := fun h5 => by
    have h1 : holdsB kind = true := alone_holds hal (show (5 : Int) ≤ kind by omega)
    unfold holdsB at h1
    simpa using h1
  have htext : kind = 4 → validB s.data.toList = true := fun hk => alone_text (x := (⟨kind, n, s, kids, keys⟩ : ValF (ValN d))) hal hk
  obtain ⟨ro, hro⟩ : ∃ ro, lenV d (⟨kind, n, s, kids, keys⟩ : ValF (ValN d)) = ro := ⟨_, rfl⟩
  rw [hro]
  have hro2 : (if kind = 5 ∨ kind = 6 then (kl, true) else if kind = 4 then ((ptsOf s.data.toList).1.length, true) else (0, false)) = ro := by
    rw [← hro, ← hlen]
    unfold lenV
    rw [if_pos hr]; rfl
  clear hro hal
  by_cases h4 : kind = 4
  · subst h4
    have hvv := htext rfl
    obtain ⟨W0, hW0⟩ : ∃ W0, w.alloc (.cells #[.int .i64 4, .int .i64 n, .string s, .slice ka kl kc, .slice qa ql qc] 39) = W0 := ⟨_, rfl⟩
    have bel0 : Below w.heap.size w W0 := by rw [← hW0]; exact (by repeat (first | (with_reducible exact Below.refl _ _) | (with_reducible exact Below.refl _ _) | (with_reducible refine Below.setCell ?_ (by first | omega | (simp; done) | (simp; omega)) _) | (with_reducible refine Below.alloc ?_ (by first | omega | (simp; done) | (simp; omega)) _) | (with_reducible refine Below.drew ?_) | (with_reducible refine below_drewN ?_ _)))
    obtain ⟨c, hcv, hby, hbw⟩ := Tryd_convBytes s W0 (by omega)
    have e0 : W0.heap.size = w.heap.size + 1 := by rw [← hW0]; simp
    rw [e0] at hcv hby
    have HBY := Lib.hid hby
    have HBW := Lib.hid (bel0.trans (hbw.mono bel0.size))
    obtain ⟨W1, hW1⟩ : ∃ W1, Lib.bytesWorld W0 5 s = W1 := ⟨_, rfl⟩
    rw [hW1] at hcv HBY HBW
    subst hW0
    obtain ⟨m, hm⟩ : ∃ m, (ptsOf s.data.toList).1.length = m := ⟨_, rfl⟩
    have hrr : ro = (m, true) := by rw [← hro2, if_neg (by omega), if_pos rfl, hm]
    subst hrr
    have HM := Lib.hid hm
    have HVV := Lib.hid hvv
    have HSS := Lib.hid hss
    clear hby hbw hW1 bel0 e0 hro2 hm hvv htext hleaf hhold hlen hss h hr
    go_enter Tryd.func37, Tryd.ntmps37
    go_wp2_with fail
    refine (Tryd_rPoints (some ⟨w.heap.size + 1, 0, none⟩) s.size c s.data.toList W1 HBY.out HSS.out).mono ?_
    intro e w2 hp
    unfold PtsBack at hp
    rw [if_pos HVV.out] at hp
    obtain ⟨v, rfl, ho, hb2⟩ := hp
    rw [HM.out] at ho
    obtain ⟨a, cap, rfl, _⟩ := own_cells ho
    have BEL := Lib.hid (HBW.out.trans (hb2.mono HBW.out.size))
    clear hb2 ho
    go_wp2
    go_ret2
    exact ⟨rfl, BEL.out⟩
  · have d4 : (kind == 4) = false := by rw [beq_eq_false_iff_ne]; exact h4
    have hrr : ro = (kl, decide (kind ≥ 5)) := by
      rw [← hro2]
      by_cases h5 : kind < 5
      · rw [if_neg (by omega), if_neg h4, hleaf h5, decide_eq_false (by omega)]
      · rw [if_pos (hhold h5), decide_eq_true (by omega)]
    subst hrr
    obtain ⟨b5, hb5⟩ : ∃ b, decide (kind ≥ 5) = b := ⟨_, rfl⟩
    have hb5' : decide ((5 : Int) ≤ kind) = b5 := hb5
    rw [hb5]
    clear hro2 htext hleaf hhold hlen hss h hr
    go_enter Tryd.func37, Tryd.ntmps37
    go_wp2_with fail
    go_quiet (fail)
    go_wp2
    go_ret2
    exact ⟨rfl, (by repeat (first | (with_reducible exact Below.refl _ _) | (with_reducible exact Below.refl _ _) | (with_reducible refine Below.setCell ?_ (by first | omega | (simp; done) | (simp; omega)) _) | (with_reducible refine Below.alloc ?_ (by first | omega | (simp; done) | (simp; omega)) _) | (with_reducible refine Below.drew ?_) | (with_reducible refine below_drewN ?_ _)))⟩
end Go.Proofs.YtmcmknndhppljaaDoor
