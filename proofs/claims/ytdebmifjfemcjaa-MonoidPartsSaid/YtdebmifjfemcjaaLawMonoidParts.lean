/-
  MonoidParts: for every slice of rows and every slice of cuts the law answers true, and leaves what it was given as it was.
-/
import Derived.Test.YtdebmifjfemcjaaRows
import Derived.Test.YtdebmifjfemcjaaMonParts
import Derived.Test.YtdebmifjfemcjaaOpenRows
import Derived.WalkKit
import Derived.ProofKit
import Derived.OpenShut
import Derived.ShutString
import Derived.ChangeOld
import Derived.ChangeSlices
import Derived.Below
namespace Go.Proofs.Ytdebmifjfemcjaa
set_option linter.unusedVariables false
set_option linter.unusedSimpArgs false
namespace MonoidParts
open Go.ChangeShapes Go.WideShapes Go.ChangeAt Go.RowKit Go.Joins Go.Dav

theorem own : ownKnob Try.prog.godebug = none := by kernel_rfl
theorem laidOut : laidOutB Try.prog = true := by kernel_rfl

section
variable {H : Type} {enc : TypeId × Value → H} {w : World} {base : Nat} {spare : Nat → Bool} {held : Bool}
theorem ints_in {r : Reach} {b0 : Nat} {v : Value} {d : DataW H} {p : List MemPlace} (hv : Value.okWide Try.prog w r b0 40 v) (h : DataW.Trod enc Try.prog w base spare held 40 v d p) :
    ∃ (a : Option Addr) (len cap : Nat) (C : List Int), v = .slice a len cap ∧ C.length = len ∧ len ≤ cap ∧ cap ≤ maxLen ∧ TryIntsIn w w.heap.size a C ∧ ∀ x ∈ C, I64 x := by
  obtain ⟨a0, len0, cap0, rfl⟩ := okWide_slice Try.underlying40 hv
  obtain ⟨fuel, hf⟩ := h
  rcases open_ints Try.underlying40 Try.underlying3 (by kernel_rfl) hf with ⟨hc, _⟩ | ⟨a, len, cap, zs, hc, _, hl, hm, hz, _, hcell, hwf⟩
  · simp only [Value.cells, List.cons.injEq, and_true] at hc
    exact ⟨_, _, _, [], hc, rfl, Nat.le_refl _, by unfold maxLen; omega, fun k x hk => (by simp at hk), fun x hx => (by simp at hx)⟩
  · simp only [Value.cells, List.cons.injEq, and_true] at hc
    have hle : len ≤ zs.length := by rw [hz]; split <;> omega
    refine ⟨some a, len, cap, zs.take len, hc, by rw [List.length_take]; omega, hl, hm, fun k x hk => ?_, fun x hx => i64_of_wf (hwf x (List.mem_of_mem_take hx))⟩
    have hkl := (List.getElem?_eq_some_iff.1 hk).1
    rw [List.length_take] at hkl
    rw [List.getElem?_take_of_lt (by omega)] at hk
    have e : zs.getD k 0 = x := by rw [List.getD_eq_getElem?_getD, hk]; rfl
    have hcell0 := hcell 0 (by omega)
    obtain ⟨b, o, sp⟩ := a
    have hs := World.cell?_spot hcell0
    have hs : sp = none := by simpa [Addr.add] using hs
    subst hs
    have hb := World.block_lt_of_cell? _ _ hcell0
    refine ⟨b, o, rfl, by simpa [Addr.add] using hb, ?_⟩
    have h1 := hcell k (by omega)
    rw [e, Addr.add_mid] at h1
    exact h1
end

set_option maxRecDepth 100000 in
theorem lifted (os : Os) (started : os.Started) (H : Type) (enc : TypeId × Value → H) :
    ReturnsInHanded {} Try.checked os 5 .any (Rows.monoidPartsSpec.pre6 enc Try.prog Try.f5 Rows.monoidPartsRow.domain false) (Rows.monoidPartsSpec.post enc Try.prog Try.f5 false true false false) := by
  refine returnsInHanded_of_change (C := Try.checked) own started (by kernel_rfl) Try.func5
    (ChangeSpec.witness6 (enc := enc) (C := Try.checked) false ⟨#[], #[.slice none 0 0, .slice none 0 0], []⟩ 8 (by kernel_rfl) (by kernel_rfl) (by kernel_rfl) (by kernel_rfl)) ?_
  intro W base args ds gs before hval0 hW hcnd _
  have hval : ∀ (j : Nat) t v, Try.f5.params[j]? = some t → args[j]? = some v → Value.okWide Try.prog W .any base t v := hval0
  have hW' := hW
  obtain ⟨p, q, hA0, hV, rfl, hfz, hnd⟩ := hW
  have hA : DataW.TrodAll enc Try.prog W 0 (fun _ => true) true Try.f5.params.toList args.toList ds p := hA0
  rw [Try.params5] at hA hval
  obtain ⟨v0, vs0, d0, ds0, p0, q0, hargs, rfl, rfl, h0, r0⟩ := trodAll_cons hA
  obtain ⟨v1, vs1, d1, ds1, p1, q1, rfl, rfl, rfl, h1, r1⟩ := trodAll_cons r0
  obtain ⟨rfl, rfl, rfl⟩ := trodAll_nil r1
  obtain rfl : args = #[v0, v1] := by cases args; simp_all
  obtain ⟨rfl, rfl⟩ := trodVars_none hV
  have k0 := h0
  have lt0 : ∀ x ∈ p0, x.block < W.heap.size := by obtain ⟨m, hm⟩ := k0; exact DataW.trod_lt m _ _ _ hm
  have ok0 := hval 0 39 v0 rfl rfl
  have k1 := h1
  have lt1 : ∀ x ∈ p1, x.block < W.heap.size := by obtain ⟨m, hm⟩ := k1; exact DataW.trod_lt m _ _ _ hm
  have ok1 := hval 1 40 v1 rfl rfl
  obtain ⟨a, len, cap, L, rfl, hlen, hc1, hc2, hat, hx, ha0⟩ := Try_rows_open ok0 h0
  obtain ⟨ca, clen, ccap, C, rfl, hclen, hc3, hc4, hcat, hcx⟩ := ints_in ok1 h1
  clear hA0 hval0
  refine (Try_MonoidParts a len cap L ca clen ccap C W hlen hc1 hc2 hat hx hclen hc3 hc4 hcat hcx (fun h => (ha0 h).2)).mono fun e W' ⟨he, bel⟩ => ?_
  subst he
  exact ⟨_, rfl, _, _, _, [], _, [], hW', trodAll_mk1 (shut_bool Try.underlying4 _), (trodAll_cons_mk (Below.trod laidOut (by kernel_rfl) (of_decide_eq_true (by kernel_rfl)) k0 bel lt0) (trodAll_cons_mk (Below.trod laidOut (by kernel_rfl) (of_decide_eq_true (by kernel_rfl)) k1 bel lt1) trodAll_mk0)), rfl, bel.frame _, fun h => by cases h⟩

theorem over : Rows.monoidPartsRow.holds Try.pinned (OpenSpec.ofChange Rows.monoidPartsSpec) :=
  OpenClaim.holds_of_wide 5 Try.f5 rfl rfl rfl rfl rfl rfl rfl ⟨rfl, rfl, rfl, rfl, rfl⟩ rfl rfl rfl rfl rfl (by kernel_rfl) Try.func5 (by kernel_rfl)
    (of_decide_eq_true (by kernel_rfl)) (by unfold Func.isWrapper; first | (rw [if_pos (by decide +kernel)]; kernel_rfl) | (rw [if_neg (by decide +kernel)]; exact ⟨rfl, rfl⟩))
    (fun os started H enc _ => lifted os started H enc)
end MonoidParts

theorem monoidParts_holds : Rows.MonoidPartsSaid := MonoidParts.over
#print axioms monoidParts_holds
end Go.Proofs.Ytdebmifjfemcjaa
