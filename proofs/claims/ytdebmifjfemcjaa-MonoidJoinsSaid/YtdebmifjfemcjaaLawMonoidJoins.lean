/-
  MonoidJoins: for every slice of reductions the law answers true, and leaves what it was given as it was.
-/
import Derived.Test.YtdebmifjfemcjaaRows
import Derived.Test.YtdebmifjfemcjaaMonLawB2
import Derived.Test.YtdebmifjfemcjaaOpen
import Derived.WalkKit
import Derived.ProofKit
import Derived.OpenShut
import Derived.ShutString
import Derived.ChangeOld
import Derived.Below
namespace Go.Proofs.Ytdebmifjfemcjaa
set_option linter.unusedVariables false
set_option linter.unusedSimpArgs false
namespace MonoidJoins
open Go.ChangeShapes Go.WideShapes Go.ChangeAt Go.RowKit Go.Joins Go.Dav

theorem own : ownKnob Try.prog.godebug = none := by kernel_rfl
theorem laidOut : laidOutB Try.prog = true := by kernel_rfl
theorem cells24 : Try.prog.cellsOf 24 = 6 := by kernel_rfl

/-- A list that answers at every place below n, where each place has an answer. -/
theorem listOf {α : Type} {p : Nat → α → Prop} : ∀ (n : Nat), (∀ i, i < n → ∃ x, p i x) → ∃ l : List α, l.length = n ∧ ∀ i x, l[i]? = some x → p i x
  | 0, _ => ⟨[], rfl, fun i x h => by simp at h⟩
  | n + 1, h => by
    obtain ⟨l, hl, hp⟩ := listOf (p := p) n (fun i hi => h i (by omega))
    obtain ⟨x, hx⟩ := h n (by omega)
    refine ⟨l ++ [x], by simp [hl], fun i y hy => ?_⟩
    by_cases hi : i < l.length
    · rw [List.getElem?_append_left hi] at hy; exact hp i y hy
    · rw [List.getElem?_append_right (by omega)] at hy
      have : i - l.length = 0 := by
        have := (List.getElem?_eq_some_iff.1 hy).1
        simp at this; omega
      rw [this] at hy
      have e : x = y := by simpa using hy
      have : i = n := by omega
      subst this e
      exact hx

section
variable {H : Type} {enc : TypeId × Value → H} {w : World} {base : Nat} {spare : Nat → Bool} {held : Bool}
theorem reds_open {r : Reach} {b0 : Nat} {v : Value} {d : DataW H} {p : List MemPlace} (hv : Value.okWide Try.prog w r b0 34 v) (h : DataW.Trod enc Try.prog w base spare held 34 v d p) :
    ∃ (a : Option Addr) (len cap : Nat) (l : List Red), v = .slice a len cap ∧ TryRedsIn w a len cap l := by
  obtain ⟨a0, len0, cap0, rfl⟩ := okWide_slice Try.underlying34 hv
  obtain ⟨fuel, hf⟩ := h
  rcases open_slice_fields Try.underlying34 Try.underlying24 (by kernel_rfl) cells24 hf with ⟨hc, _⟩ | ⟨a, len, cap, m, D, Pl, hc, _, hl, hm, hmm, _, hi⟩
  · simp only [Value.cells, List.cons.injEq, and_true] at hc
    refine ⟨_, _, _, [], hc, Nat.le_refl _, by omega, rfl, fun h => by omega, fun _ => ⟨rfl, rfl⟩, fun r hr => by simp at hr⟩
  · simp only [Value.cells, List.cons.injEq, and_true] at hc
    have hlm : len ≤ m := by rw [hmm]; split <;> omega
    have key : ∀ i, i < len → ∃ r : Red, (r.fits ∧ r.canon) ∧ ∀ j u, r.cells[j]? = some u → w.cell? (a.add (i * 6 + j)) = some u := by
      intro i hil
      obtain ⟨ys, n, _, _, hyl, hF⟩ := hi i (by omega)
      obtain ⟨v0, y0, c0, _, t0⟩ := hF 0 _ rfl
      obtain ⟨v1, y1, c1, _, t1⟩ := hF 1 _ rfl
      obtain ⟨v2, y2, c2, _, t2⟩ := hF 2 _ rfl
      obtain ⟨v3, y3, c3, _, t3⟩ := hF 3 _ rfl
      obtain ⟨v4, y4, c4, _, t4⟩ := hF 4 _ rfl
      obtain ⟨v5, y5, c5, _, t5⟩ := hF 5 _ rfl
      obtain ⟨n0, e0, _, w0⟩ := DataW.trod_int Try.underlying3 t0
      obtain ⟨n1, e1, _, w1⟩ := DataW.trod_int Try.underlying3 t1
      obtain ⟨n2, e2, _, w2⟩ := DataW.trod_int Try.underlying2 t2
      obtain ⟨n3, e3, _, w3⟩ := DataW.trod_int Try.underlying22 t3
      obtain ⟨n4, e4, _, w4⟩ := DataW.trod_int Try.underlying2 t4
      obtain ⟨n5, e5, _, w5⟩ := DataW.trod_int Try.underlying2 t5
      simp only [List.cons.injEq, and_true] at e0 e1 e2 e3 e4 e5
      subst e0 e1 e2 e3 e4 e5
      have hlo := u64_of_wf w3
      have p1 := pair_hi (i64_of_wf w2) hlo.1 (show n3 < 18446744073709551616 by omega)
      have p2 := pair_lo (h := n2) hlo.1 (show n3 < 18446744073709551616 by omega)
      refine ⟨⟨n0, n1, n2 * 18446744073709551616 + n3, n4, n5⟩, ⟨⟨i64_of_wf w0, i64_of_wf w1, i64_of_wf w4, i64_of_wf w5⟩, ?_⟩, ?_⟩
      · unfold Red.canon; simp only; rw [p1, p2]
      · intro j u hu
        simp only [Red.cells, p1, p2] at hu
        match j, hu with
        | 0, hu => cases hu; exact c0
        | 1, hu => cases hu; exact c1
        | 2, hu => cases hu; exact c2
        | 3, hu => cases hu; exact c3
        | 4, hu => cases hu; exact c4
        | 5, hu => cases hu; exact c5
        | j + 6, hu => simp at hu
    obtain ⟨l, hlen, hl2⟩ := listOf len key
    have hmem : ∀ r ∈ l, r.fits ∧ r.canon := fun r hr => by
      obtain ⟨i, hi', e⟩ := List.mem_iff_getElem.1 hr
      exact (hl2 i r (by rw [List.getElem?_eq_getElem hi', e])).1
    refine ⟨some a, len, cap, l, hc, hl, by have := hm; unfold maxLen at this; omega, hlen, fun hpos => ?_, (fun h => by cases h), hmem⟩
    obtain ⟨b, o, sp⟩ := a
    have hx : l[0]? = some (l[0]'(by omega)) := List.getElem?_eq_getElem (by omega)
    have hcell := (hl2 0 _ hx).2 0 _ rfl
    have hs := World.cell?_spot hcell
    have hs : sp = none := by simpa [Addr.add] using hs
    subst hs
    have hb := World.block_lt_of_cell? _ _ hcell
    refine ⟨b, o, rfl, by simpa [Addr.add] using hb, fun k r hk j u hu => ?_⟩
    have h1 := (hl2 k r hk).2 j u hu
    rw [Addr.add_mid] at h1
    rw [Nat.add_assoc]
    exact h1
end

theorem walk (a : Option Addr) (len cap : Nat) (l : List Red) (w : World) (hin : TryRedsIn w a len cap l) :
    Calls Try.prog 4 #[.slice a len cap] w fun e w' => e = .returned (.bool true) ∧ Below w.heap.size w w' := by
  rcases Nat.eq_zero_or_pos len with h0 | hpos
  · subst h0
    exact Try_MonoidJoins_none a cap w fun h => (hin.2.2.2.2.1 h).2
  · by_cases h50 : len ≤ 50
    · exact Try_MonoidJoins_few a len cap l w hin hpos h50
    · exact Try_MonoidJoins_many a len cap l w hin hpos (by omega)

set_option maxRecDepth 100000 in
theorem lifted (os : Os) (started : os.Started) (H : Type) (enc : TypeId × Value → H) :
    ReturnsInHanded {} Try.checked os 4 .any (Rows.monoidJoinsSpec.pre6 enc Try.prog Try.f4 Rows.monoidJoinsRow.domain false) (Rows.monoidJoinsSpec.post enc Try.prog Try.f4 false true false false) := by
  refine returnsInHanded_of_change (C := Try.checked) own started (by kernel_rfl) Try.func4
    (ChangeSpec.witness6 (enc := enc) (C := Try.checked) false ⟨#[], #[.slice none 0 0], []⟩ 8 (by kernel_rfl) (by kernel_rfl) (by kernel_rfl) (by kernel_rfl)) ?_
  intro W base args ds gs before hval0 hW hcnd _
  have hval : ∀ (j : Nat) t v, Try.f4.params[j]? = some t → args[j]? = some v → Value.okWide Try.prog W .any base t v := hval0
  have hW' := hW
  obtain ⟨p, q, hA0, hV, rfl, hfz, hnd⟩ := hW
  have hA : DataW.TrodAll enc Try.prog W 0 (fun _ => true) true Try.f4.params.toList args.toList ds p := hA0
  rw [Try.params4] at hA hval
  obtain ⟨v0, vs0, d0, ds0, p0, q0, hargs, rfl, rfl, h0, r0⟩ := trodAll_cons hA
  obtain ⟨rfl, rfl, rfl⟩ := trodAll_nil r0
  obtain rfl : args = #[v0] := by cases args; simp_all
  obtain ⟨rfl, rfl⟩ := trodVars_none hV
  have k0 := h0
  have lt0 : ∀ x ∈ p0, x.block < W.heap.size := by obtain ⟨m, hm⟩ := k0; exact DataW.trod_lt m _ _ _ hm
  obtain ⟨a, len, cap, l, rfl, hin⟩ := reds_open (hval 0 34 v0 rfl rfl) h0
  clear hA0 hval0
  refine (walk a len cap l W hin).mono fun e W' ⟨he, bel⟩ => ?_
  subst he
  exact ⟨_, rfl, _, _, _, [], _, [], hW', trodAll_mk1 (shut_bool Try.underlying4 _), (trodAll_cons_mk (Below.trod laidOut (by kernel_rfl) (of_decide_eq_true (by kernel_rfl)) k0 bel lt0) trodAll_mk0), rfl, bel.frame _, fun h => by cases h⟩

theorem over : Rows.monoidJoinsRow.holds Try.pinned (OpenSpec.ofChange Rows.monoidJoinsSpec) :=
  OpenClaim.holds_of_wide 4 Try.f4 rfl rfl rfl rfl rfl rfl rfl ⟨rfl, rfl, rfl, rfl, rfl⟩ rfl rfl rfl rfl rfl (by kernel_rfl) Try.func4 (by kernel_rfl)
    (of_decide_eq_true (by kernel_rfl)) (by unfold Func.isWrapper; first | (rw [if_pos (by decide +kernel)]; kernel_rfl) | (rw [if_neg (by decide +kernel)]; exact ⟨rfl, rfl⟩))
    (fun os started H enc _ => lifted os started H enc)
end MonoidJoins

theorem monoidJoins_holds : Rows.MonoidJoinsSaid := MonoidJoins.over

end Go.Proofs.Ytdebmifjfemcjaa
