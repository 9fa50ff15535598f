/-
  MonoidChecks: for every reduction and every row the law answers true, and leaves what it was given as it was.
-/
import Derived.Test.YtdebmifjfemcjaaRows
import Derived.Test.YtdebmifjfemcjaaMonLawA
import Derived.Test.YtdebmifjfemcjaaOpen
import Derived.WalkKit
import Derived.ProofKit
import Derived.OpenShut
import Derived.ShutString
import Derived.ChangeOld
import Derived.Below
namespace Go.Proofs.Ytdebmifjfemcjaa
set_option linter.unusedVariables false
set_option linter.unusedSimpArgs false
namespace MonoidChecks
open Go.ChangeShapes Go.WideShapes Go.ChangeAt Go.RowKit Go.Joins Go.Dav

theorem own : ownKnob Try.prog.godebug = none := by kernel_rfl
theorem laidOut : laidOutB Try.prog = true := by kernel_rfl
theorem cells24 : Try.prog.cellsOf 24 = 6 := by kernel_rfl
theorem cells27 : Try.prog.cellsOf 27 = 4 := by kernel_rfl

theorem walk (c n h lw l m x : Int) (b : Bool) (a1 a2 : Option Addr) (l1 c1 l2 c2 : Nat) (w : World) (hh : I64 h) (hlo : 0 ≤ lw ∧ lw ≤ 18446744073709551615) (hl : I64 l) (hm : I64 m) (hx : I64 x) :
    Calls Try.prog 3 #[.agg #[.int .i64 c, .int .i64 n, .int .i64 h, .int .u64 lw, .int .i64 l, .int .i64 m], .agg #[.slice a1 l1 c1, .slice a2 l2 c2, .bool b, .int .i64 x]] w fun e w' =>
      e = .returned (.bool true) ∧ Below w.heap.size w w' := by
  have e1 := pair_hi hh hlo.1 (show lw < 18446744073709551616 by omega)
  have e2 := pair_lo (h := h) hlo.1 (show lw < 18446744073709551616 by omega)
  generalize h * 18446744073709551616 + lw = s at e1 e2
  subst e1 e2
  cases hok : Red.ok ⟨c, n, s, l, m⟩ <;> cases b
  · exact Try_MonoidChecks_no_none ⟨c, n, s, l, m⟩ a1 a2 l1 c1 l2 c2 x w hl hm hx hok
  · exact Try_MonoidChecks_no_int ⟨c, n, s, l, m⟩ a1 a2 l1 c1 l2 c2 x w hl hm hx hok
  · exact Try_MonoidChecks_ok_none ⟨c, n, s, l, m⟩ a1 a2 l1 c1 l2 c2 x w hl hm hx hok
  · exact Try_MonoidChecks_ok_int ⟨c, n, s, l, m⟩ a1 a2 l1 c1 l2 c2 x w hl hm hx hok

set_option maxRecDepth 100000 in
theorem lifted (os : Os) (started : os.Started) (H : Type) (enc : TypeId × Value → H) :
    ReturnsInHanded {} Try.checked os 3 .any (Rows.monoidChecksSpec.pre6 enc Try.prog Try.f3 Rows.monoidChecksRow.domain false) (Rows.monoidChecksSpec.post enc Try.prog Try.f3 false true false false) := by
  refine returnsInHanded_of_change (C := Try.checked) own started (by kernel_rfl) Try.func3
    (ChangeSpec.witness6 (enc := enc) (C := Try.checked) false ⟨#[], #[.agg #[.int .i64 0, .int .i64 0, .int .i64 0, .int .u64 0, .int .i64 0, .int .i64 0], .agg #[.slice none 0 0, .slice none 0 0, .bool false, .int .i64 0]], []⟩ 8 (by kernel_rfl) (by kernel_rfl) (by kernel_rfl) (by kernel_rfl)) ?_
  intro W base args ds gs before hval0 hW hcnd _
  have hval : ∀ (j : Nat) t v, Try.f3.params[j]? = some t → args[j]? = some v → Value.okWide Try.prog W .any base t v := hval0
  have hW' := hW
  obtain ⟨p, q, hA0, hV, rfl, hfz, hnd⟩ := hW
  have hA : DataW.TrodAll enc Try.prog W 0 (fun _ => true) true Try.f3.params.toList args.toList ds p := hA0
  rw [Try.params3] at hA hval
  obtain ⟨v0, vs0, d0, ds0, p0, q0, hargs, rfl, rfl, h0, r0⟩ := trodAll_cons hA
  obtain ⟨v1, vs1, d1, ds1, p1, q1, rfl, rfl, rfl, h1, r1⟩ := trodAll_cons r0
  obtain ⟨rfl, rfl, rfl⟩ := trodAll_nil r1
  obtain rfl : args = #[v0, v1] := by cases args; simp_all
  obtain ⟨rfl, rfl⟩ := trodVars_none hV
  have k0 := h0
  have k1 := h1
  have lt0 : ∀ x ∈ p0, x.block < W.heap.size := by obtain ⟨m, hm⟩ := k0; exact DataW.trod_lt m _ _ _ hm
  have lt1 : ∀ x ∈ p1, x.block < W.heap.size := by obtain ⟨m, hm⟩ := k1; exact DataW.trod_lt m _ _ _ hm
  obtain ⟨x0, x1, x2, x3, x4, x5, y0, y1, y2, y3, y4, y5, fu, rfl, rfl, rfl, g0, g1, g2, g3, g4, g5⟩ := open_agg6 Try.underlying24 (by kernel_rfl) cells24 (hval 0 24 v0 rfl rfl) h0
  obtain ⟨z0, z1, z2, z3, u0, u1, u2, u3, fv, rfl, rfl, rfl, i0, i1, i2, i3⟩ := open_agg4 Try.underlying27 (by kernel_rfl) cells27 (hval 1 27 v1 rfl rfl) h1
  obtain ⟨n0, e0, _, w0⟩ := DataW.trod_int Try.underlying3 g0
  obtain ⟨n1, e1, _, w1⟩ := DataW.trod_int Try.underlying3 g1
  obtain ⟨n2, e2, _, w2⟩ := DataW.trod_int Try.underlying2 g2
  obtain ⟨n3, e3, _, w3⟩ := DataW.trod_int Try.underlying22 g3
  obtain ⟨n4, e4, _, w4⟩ := DataW.trod_int Try.underlying2 g4
  obtain ⟨n5, e5, _, w5⟩ := DataW.trod_int Try.underlying2 g5
  obtain ⟨a1, l1, c1, f0⟩ := slice_form Try.underlying25 i0
  obtain ⟨a2, l2, c2, f1⟩ := slice_form Try.underlying25 i1
  obtain ⟨b2, f2, _⟩ := DataW.trod_bool Try.underlying4 i2
  obtain ⟨m3, f3, _, v3⟩ := DataW.trod_int Try.underlying2 i3
  simp only [List.cons.injEq, and_true] at e0 e1 e2 e3 e4 e5 f0 f1 f2 f3
  subst e0 e1 e2 e3 e4 e5 f0 f1 f2 f3
  clear hA0 hval0
  refine (walk n0 n1 n2 n3 n4 n5 m3 b2 a1 a2 l1 c1 l2 c2 W (i64_of_wf w2) (u64_of_wf w3) (i64_of_wf w4) (i64_of_wf w5) (i64_of_wf v3)).mono fun e W' ⟨he, bel⟩ => ?_
  subst he
  exact ⟨_, rfl, _, _, _, [], _, [], hW', trodAll_mk1 (shut_bool Try.underlying4 _), (trodAll_cons_mk (Below.trod laidOut (by kernel_rfl) (of_decide_eq_true (by kernel_rfl)) k0 bel lt0) (trodAll_cons_mk (Below.trod laidOut (by kernel_rfl) (of_decide_eq_true (by kernel_rfl)) k1 bel lt1) trodAll_mk0)), rfl, bel.frame _, fun h => by cases h⟩

theorem over : Rows.monoidChecksRow.holds Try.pinned (OpenSpec.ofChange Rows.monoidChecksSpec) :=
  OpenClaim.holds_of_wide 3 Try.f3 rfl rfl rfl rfl rfl rfl rfl ⟨rfl, rfl, rfl, rfl, rfl⟩ rfl rfl rfl rfl rfl (by kernel_rfl) Try.func3 (by kernel_rfl)
    (of_decide_eq_true (by kernel_rfl)) (by unfold Func.isWrapper; first | (rw [if_pos (by decide +kernel)]; kernel_rfl) | (rw [if_neg (by decide +kernel)]; exact ⟨rfl, rfl⟩))
    (fun os started H enc _ => lifted os started H enc)
end MonoidChecks

theorem monoidChecks_holds : Rows.MonoidChecksSaid := MonoidChecks.over
#print axioms monoidChecks_holds
end Go.Proofs.Ytdebmifjfemcjaa
