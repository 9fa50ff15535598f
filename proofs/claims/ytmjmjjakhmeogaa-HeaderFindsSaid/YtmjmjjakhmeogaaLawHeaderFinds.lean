/-
  HeaderFinds: for every file and every spots the law answers true, and leaves what it was given as it was.
-/
import Derived.Test.YtmjmjjakhmeogaaRows
import Derived.Test.YtmjmjjakhmeogaaOpenHead
import Derived.Test.YtmjmjjakhmeogaaLawHD
namespace Go.Proofs.Ytmjmjjakhmeogaa
set_option linter.unusedVariables false
set_option linter.unusedSimpArgs false
namespace HeaderFinds
set_option linter.unusedVariables false
set_option linter.unusedSimpArgs false
open Go.ChangeShapes Go.WideShapes Go.ChangeAt Go.RowKit Go.Joins Go.Dav Go.Deep

theorem own : ownKnob Try.prog.godebug = none := by kernel_rfl
theorem laidOut : laidOutB Try.prog = true := by kernel_rfl

section
variable {H : Type} {enc : TypeId × Value → H} {w : World} {base : Nat} {spare : Nat → Bool} {held : Bool}
set_option maxRecDepth 100000 in
theorem spot_open {n : Nat} {cs : List Value} {y : DataW H × List MemPlace} (h : DataW.trod enc Try.prog w base spare held n 71 cs = some y) : ∃ x : SpotV, cs = x.cells ∧ x.Fits := by
  obtain ⟨xs, m, rfl, _, hcl, hlen, hF⟩ := DataW.trod_struct Try.underlying71 h
  have h5 : Try.prog.cellsOf 71 = 5 := by kernel_rfl
  have h1 : Try.prog.cellsOf 3 = 1 := by kernel_rfl
  have h2 : Try.prog.cellsOf 56 = 2 := by kernel_rfl
  have h3 : Try.prog.cellsOf 5 = 1 := by kernel_rfl
  have h4 : Try.prog.cellsOf 54 = 1 := by kernel_rfl
  rw [h5] at hcl
  match cs, hcl, xs, hlen with
  | [c0, c1, c2, c3, c4], _, [x0, x1, x2, x3], _ =>
    have t0 : DataW.trod enc Try.prog w base spare held m 3 (([c0, c1, c2, c3, c4].drop 0).take (Try.prog.cellsOf 3)) = some x0 := hF 0 _ rfl
    have t1 : DataW.trod enc Try.prog w base spare held m 3 (([c0, c1, c2, c3, c4].drop 1).take (Try.prog.cellsOf 3)) = some x1 := hF 1 _ rfl
    have t2 : DataW.trod enc Try.prog w base spare held m 56 (([c0, c1, c2, c3, c4].drop 2).take (Try.prog.cellsOf 56)) = some x2 := hF 2 _ rfl
    have t3 : DataW.trod enc Try.prog w base spare held m 5 (([c0, c1, c2, c3, c4].drop 4).take (Try.prog.cellsOf 5)) = some x3 := hF 3 _ rfl
    rw [h1] at t0 t1
    rw [h2] at t2
    rw [h3] at t3
    replace t2 : DataW.trod enc Try.prog w base spare held m 56 [c2, c3] = some x2 := t2
    obtain ⟨n0, f0, _, w0⟩ := DataW.trod_int Try.underlying3 t0
    obtain ⟨n1, f1, _, w1⟩ := DataW.trod_int Try.underlying3 t1
    obtain ⟨n3, f3, _, w3⟩ := DataW.trod_int Try.underlying5 t3
    obtain ⟨ys, m2, rfl, _, _, hlen2, hG⟩ := DataW.trod_struct Try.underlying56 t2
    match ys, hlen2 with
    | [y0, y1], _ =>
      have s0 : DataW.trod enc Try.prog w base spare held m2 54 (([c2, c3].drop 0).take (Try.prog.cellsOf 54)) = some y0 := hG 0 _ rfl
      have s1 : DataW.trod enc Try.prog w base spare held m2 3 (([c2, c3].drop 1).take (Try.prog.cellsOf 3)) = some y1 := hG 1 _ rfl
      rw [h4] at s0
      rw [h1] at s1
      obtain ⟨g0, e0, _, v0⟩ := DataW.trod_int Try.underlying54 s0
      obtain ⟨g1, e1, _, v1⟩ := DataW.trod_int Try.underlying3 s1
      simp only [List.drop_zero, List.drop_succ_cons, List.take_succ_cons, List.take_zero, List.cons.injEq, and_true] at f0 f1 f3 e0 e1
      subst f0 f1 f3 e0 e1
      obtain ⟨a1, a2⟩ := u64_wf v0
      obtain ⟨g, rfl⟩ := Int.eq_ofNat_of_zero_le a1
      obtain ⟨b1, b2⟩ := u8_wf w3
      obtain ⟨tt, rfl⟩ := Int.eq_ofNat_of_zero_le b1
      exact ⟨⟨n0, n1, ⟨g, g1⟩, tt⟩, rfl, ⟨i64_wf w0, i64_wf w1, ⟨by show g < _; omega, i64_wf v1⟩, by show tt < _; omega⟩⟩

set_option maxRecDepth 100000 in
theorem spots_open {r : Reach} {b0 : Nat} {v : Value} {d : DataW H} {p : List MemPlace} (hv : Value.okWide Try.prog w r b0 68 v) (h : DataW.Trod enc Try.prog w base spare held 68 v d p) (hs : ∀ n ∈ d.weights Try.prog 68, n ≤ reachBytes) :
    ∃ (a : Option Addr) (len cap : Nat) (D : List SpotV), v = .slice a len cap ∧ SpotsAt w a D ∧ D.length = len ∧ len ≤ cap ∧ len ≤ 140737488355328 ∧ (a = none → cap = 0) := by
  obtain ⟨fuel, hf⟩ := h
  obtain ⟨a0, len0, cap0, rfl⟩ := okWide_slice Try.underlying68 hv
  rcases open_slice Try.underlying68 hf with ⟨hc, _⟩ | ⟨a, len, cap, m, n, D, Pl, hc, _, hl, hm, hmm, hx, hi⟩
  · simp only [Value.cells, List.cons.injEq, and_true] at hc
    exact ⟨_, _, _, [], hc, fun k d hk => by simp at hk, rfl, Nat.le_refl _, by omega, fun _ => rfl⟩
  · simp only [Value.cells, List.cons.injEq, and_true] at hc
    simp only [Prod.mk.injEq] at hx
    obtain ⟨rfl, _⟩ := hx
    have hlm : len ≤ m := by rw [hmm]; split <;> omega
    have hb1 : Try.prog.bytesOf 71 = 40 := by kernel_rfl
    have h5 : Try.prog.cellsOf 71 = 5 := by kernel_rfl
    have hw := hs ((((List.range len).map D).length + ((List.range (m - len)).map fun j => D (len + j)).length) * Try.prog.bytesOf 71) (by simp [DataW.weights, Try.underlying68])
    rw [hb1] at hw
    simp only [List.length_map, List.length_range] at hw
    rw [h5] at hi
    have key : ∀ i, i < len → ∃ x : SpotV, (∀ j u, x.cells[j]? = some u → w.cell? (a.add (i * 5 + j)) = some u) ∧ x.Fits := by
      intro i hil
      obtain ⟨cs', hcs, htr⟩ := hi i (by omega)
      obtain ⟨x, rfl, hX⟩ := spot_open htr
      refine ⟨x, fun j u hu => ?_, hX⟩
      obtain ⟨_, hcl, hci⟩ := World.cells?_some hcs
      have hj : j < 5 := by
        have h1 := (List.getElem?_eq_some_iff.1 hu).1
        have h2 : x.cells.length = 5 := rfl
        omega
      have := hci j hj
      rw [hu] at this
      rw [Addr.add_add] at this
      exact this
    obtain ⟨l, hlen, hl2⟩ := Try_listOf len key
    refine ⟨some a, len, cap, l, hc, fun k x hk => ?_, hlen, hl, by unfold reachBytes at hw; omega, fun e => by cases e⟩
    obtain ⟨b, o, sp⟩ := a
    have hkl := (List.getElem?_eq_some_iff.1 hk).1
    have hcell0 := (hl2 0 _ (List.getElem?_eq_getElem (by omega : 0 < l.length))).1 0 _ rfl
    have hsp := World.cell?_spot hcell0
    have hsp : sp = none := by simpa [Addr.add] using hsp
    subst hsp
    have hbl := World.block_lt_of_cell? _ _ hcell0
    refine ⟨b, o, rfl, by simpa [Addr.add] using hbl, fun j u hu => ?_, (hl2 k x hk).2⟩
    have := (hl2 k x hk).1 j u hu
    rw [Addr.add_lit] at this
    rw [Nat.add_assoc]; exact this
end

set_option maxRecDepth 100000 in
theorem lifted (os : Os) (started : os.Started) (H : Type) (enc : TypeId × Value → H) :
    ReturnsInHanded {} Try.checked os 11 .any (Rows.headerFindsSpec.pre6 enc Try.prog Try.f11 Rows.headerFindsRow.domain false) (Rows.headerFindsSpec.post enc Try.prog Try.f11 false true false false) := by
  refine returnsInHanded_of_change_sized (C := Try.checked) own started (by kernel_rfl) Try.func11
    (ChangeSpec.witness6 (enc := enc) (C := Try.checked) false ⟨#[], #[.agg #[.slice none 0 0, .slice none 0 0, .int .i64 0, .int .i64 0, .bool false], .slice none 0 0], []⟩ 8 (by kernel_rfl) (by kernel_rfl) (by kernel_rfl) (by kernel_rfl)) ?_
  intro W base args ds gs before hval0 hW hcnd hsz0 _
  have hsz : (DataW.weightsEach Try.prog (Try.f11.params.toList ++ Rows.headerFindsSpec.plain.varTypes Try.prog) (ds ++ gs)).all (· ≤ reachBytes) = true := hsz0
  have hval : ∀ (j : Nat) t v, Try.f11.params[j]? = some t → args[j]? = some v → Value.okWide Try.prog W .any base t v := hval0
  have hW' := hW
  obtain ⟨p, q, hA0, hV, rfl, hfz, hnd⟩ := hW
  have hA : DataW.TrodAll enc Try.prog W 0 (fun _ => true) true Try.f11.params.toList args.toList ds p := hA0
  rw [Try.params11] at hA hval hsz
  obtain ⟨v0, vs0, d0, ds0, p0, q0, hargs, rfl, rfl, h0, r0⟩ := trodAll_cons hA
  obtain ⟨v1, vs1, d1, ds1, p1, q1, rfl, rfl, rfl, h1, r1⟩ := trodAll_cons r0
  obtain ⟨rfl, rfl, rfl⟩ := trodAll_nil r1
  obtain rfl : args = #[v0, v1] := by cases args; simp_all
  obtain ⟨rfl, rfl⟩ := trodVars_none hV
  have k0 := h0
  have lt0 : ∀ x ∈ p0, x.block < W.heap.size := by obtain ⟨m, hm⟩ := k0; exact DataW.trod_lt m _ _ _ hm
  have ok0 := hval 0 25 v0 rfl rfl
  have sz0 : ∀ n ∈ d0.weights Try.prog 25, n ≤ reachBytes := fun n hn => by simpa using List.all_eq_true.1 hsz n (DataW.weights_mem_each (j := 0) rfl rfl n hn)
  have k1 := h1
  have lt1 : ∀ x ∈ p1, x.block < W.heap.size := by obtain ⟨m, hm⟩ := k1; exact DataW.trod_lt m _ _ _ hm
  have ok1 := hval 1 68 v1 rfl rfl
  have sz1 : ∀ n ∈ d1.weights Try.prog 68, n ≤ reachBytes := fun n hn => by simpa using List.all_eq_true.1 hsz n (DataW.weights_mem_each (j := 1) rfl rfl n hn)
  obtain ⟨fa, fl, fc, la, ll, lc, F, rfl, hF⟩ := Try_file_open ok0 h0 sz0
  obtain ⟨sa, sl, sc, L, rfl, hL, hLl, hsc, hsl, hsn⟩ := spots_open ok1 h1 sz1
  clear hA0 hval0 hsz0 hsz
  refine (Try_HeaderFinds F L fa la sa fl fc ll lc sl sc W hF hL hLl hsc hsl hsn).mono fun e W' ⟨he, bel⟩ => ?_
  subst he
  exact ⟨_, rfl, _, _, _, [], _, [], hW', trodAll_mk1 (shut_bool Try.underlying4 _), (trodAll_cons_mk (Below.trod laidOut (by kernel_rfl) (of_decide_eq_true (by kernel_rfl)) k0 bel lt0) (trodAll_cons_mk (Below.trod laidOut (by kernel_rfl) (of_decide_eq_true (by kernel_rfl)) k1 bel lt1) trodAll_mk0)), rfl, bel.frame _, fun h => by cases h⟩

theorem over : Rows.headerFindsRow.holds Try.pinned (OpenSpec.ofChange Rows.headerFindsSpec) :=
  OpenClaim.holds_of_wide 11 Try.f11 rfl rfl rfl rfl rfl rfl rfl ⟨rfl, rfl, rfl, rfl, rfl⟩ rfl rfl rfl rfl rfl (by kernel_rfl) Try.func11 (by kernel_rfl)
    (of_decide_eq_true (by kernel_rfl)) (by unfold Func.isWrapper; first | (rw [if_pos (by decide +kernel)]; kernel_rfl) | (rw [if_neg (by decide +kernel)]; exact ⟨rfl, rfl⟩))
    (fun os started H enc _ => lifted os started H enc)
end HeaderFinds

theorem headerFinds_holds : Rows.HeaderFindsSaid := HeaderFinds.over
#print axioms headerFinds_holds
end Go.Proofs.Ytmjmjjakhmeogaa
