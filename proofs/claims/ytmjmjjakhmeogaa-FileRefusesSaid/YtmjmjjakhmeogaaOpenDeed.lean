/-
  How the statements' arguments are opened: Bools, deeds.
-/
import Derived.Test.YtmjmjjakhmeogaaOpenFile
import Derived.Test.YtmjmjjakhmeogaaLawFG
namespace Go.Proofs.Ytmjmjjakhmeogaa
set_option linter.unusedVariables false
set_option linter.unusedSimpArgs false
open Go.ChangeShapes Go.WideShapes Go.ChangeAt Go.RowKit Go.Joins Go.Dav Go.Deep

section
variable {H : Type} {enc : TypeId × Value → H} {w : World} {base : Nat} {spare : Nat → Bool} {held : Bool}

set_option maxRecDepth 100000 in
theorem Try_loose_few {fuel : Nat} {v : Value} {y : DataW H × List MemPlace} (h : DataW.trod enc Try.prog w base spare held fuel 23 [v] = some y) (hs : ∀ n ∈ y.1.weights Try.prog 23, n ≤ reachBytes) :
    ∀ (a : Option Addr) (len cap : Nat), v = .slice a len cap → len * 24 ≤ 140737488355328 := by
  intro a0 len0 cap0 hv
  rcases open_slice1 Try.underlying23 (by kernel_rfl) h with ⟨hc, _⟩ | ⟨a, len, cap, m, n, V, D, Pl, hc, _, hl, hm, hmm, rfl, hi⟩
  · simp only [List.cons.injEq, and_true] at hc
    rw [hc] at hv; cases hv; omega
  · simp only [List.cons.injEq, and_true] at hc
    rw [hc] at hv; cases hv
    have hb1 : Try.prog.bytesOf 22 = 24 := by kernel_rfl
    have hw := hs ((((List.range len0).map D).length + ((List.range (m - len0)).map fun j => D (len0 + j)).length) * Try.prog.bytesOf 22) (by simp [DataW.weights, Try.underlying23])
    rw [hb1] at hw
    simp only [List.length_map, List.length_range] at hw
    unfold reachBytes at hw
    omega

set_option maxRecDepth 100000 in
theorem Try_file_few {r : Reach} {b0 : Nat} {v : Value} {d : DataW H} {p : List MemPlace} (hv : Value.okWide Try.prog w r b0 25 v) (h : DataW.Trod enc Try.prog w base spare held 25 v d p) (hs : ∀ n ∈ d.weights Try.prog 25, n ≤ reachBytes) :
    ∀ (fa : Option Addr) (fl fc : Nat) (la : Option Addr) (ll lc : Nat) (F : FileD), v = .agg #[.slice fa fl fc, .slice la ll lc, .int .i64 F.fuse, .int .i64 F.fault, .bool F.off] → ll * 24 ≤ 140737488355328 := by
  intro fa fl fc la ll lc F e
  obtain ⟨z0, z1, z2, z3, z4, u0, u1, u2, u3, u4, fv, rfl, rfl, rfl, i0, i1, i2, i3, i4⟩ := open_agg5 Try.underlying25 (by kernel_rfl) (by kernel_rfl) hv h
  have e1 : z1 = .slice la ll lc := by
    simp only [Value.agg.injEq, Array.mk.injEq, List.cons.injEq, and_true] at e
    exact e.2.1
  refine Try_loose_few i1 (fun n hn => hs n ?_) la ll lc e1
  simp only [DataW.weights, Try.underlying25, List.map_cons, List.map_nil, DataW.weightsEach, List.mem_append]
  exact .inr (.inl hn)

set_option maxRecDepth 100000 in
theorem Try_bools_open {fuel : Nat} {v : Value} {y : DataW H × List MemPlace} (h : DataW.trod enc Try.prog w base spare held fuel 32 [v] = some y) (hs : ∀ n ∈ y.1.weights Try.prog 32, n ≤ reachBytes) :
    ∃ (a : Option Addr) (len cap : Nat) (l : List Bool), v = .slice a len cap ∧ BoolsAt w a len cap l := by
  rcases open_slice1 Try.underlying32 (by kernel_rfl) h with ⟨hc, _⟩ | ⟨a, len, cap, m, n, V, D, Pl, hc, _, hl, hm, hmm, rfl, hi⟩
  · simp only [List.cons.injEq, and_true] at hc
    exact ⟨_, _, _, [], hc, rfl, Nat.le_refl _, by omega, fun k x hk => by simp at hk⟩
  · simp only [List.cons.injEq, and_true] at hc
    have hlm : len ≤ m := by rw [hmm]; split <;> omega
    have hb1 : Try.prog.bytesOf 4 = 1 := by kernel_rfl
    have hw := hs ((((List.range len).map D).length + ((List.range (m - len)).map fun j => D (len + j)).length) * Try.prog.bytesOf 4) (by simp [DataW.weights, Try.underlying32])
    rw [hb1] at hw
    simp only [List.length_map, List.length_range] at hw
    have key : ∀ i, i < len → ∃ x : Bool, w.cell? (a.add i) = some (.bool x) := by
      intro i hil
      obtain ⟨h1, h2⟩ := hi i (by omega)
      obtain ⟨x, e, _⟩ := DataW.trod_bool Try.underlying4 h2
      simp only [List.cons.injEq, and_true] at e
      exact ⟨x, by rw [h1, e]⟩
    obtain ⟨l, hlen, hl2⟩ := Try_listOf len key
    refine ⟨some a, len, cap, l, hc, hlen, hl, by unfold reachBytes at hw; omega, fun k x hk => ?_⟩
    have hcell := hl2 k x hk
    obtain ⟨b, o, sp⟩ := a
    have hkl := (List.getElem?_eq_some_iff.1 hk).1
    have hsp := World.cell?_spot (hl2 0 _ (List.getElem?_eq_getElem (by omega : 0 < l.length)))
    have hsp : sp = none := by simpa [Addr.add] using hsp
    subst hsp
    rw [Addr.add_lit] at hcell
    exact ⟨b, o, rfl, World.block_lt_of_cell? _ _ hcell, hcell⟩

set_option maxRecDepth 100000 in
theorem Try_deeds_open {r : Reach} {b0 : Nat} {v : Value} {d : DataW H} {p : List MemPlace} (hv : Value.okWide Try.prog w r b0 26 v) (h : DataW.Trod enc Try.prog w base spare held 26 v d p) (hs : ∀ n ∈ d.weights Try.prog 26, n ≤ reachBytes) :
    ∃ (a : Option Addr) (len cap : Nat) (D : List DeedV), v = .slice a len cap ∧ DeedsAt w a D ∧ D.length = len ∧ len ≤ cap ∧ len ≤ 140737488355328 ∧ (a = none → cap = 0) := by
  obtain ⟨fuel, hf⟩ := h
  obtain ⟨a0, len0, cap0, rfl⟩ := okWide_slice Try.underlying26 hv
  rcases open_slice_fields Try.underlying26 Try.underlying34 (by kernel_rfl) (by kernel_rfl) hf with ⟨hc, _⟩ | ⟨a, len, cap, m, D, Pl, hc, _, hl, hm, hmm, hx, hi⟩
  · simp only [Value.cells, List.cons.injEq, and_true] at hc
    exact ⟨_, _, _, [], hc, fun k d hk => by simp at hk, rfl, Nat.le_refl _, by omega, fun _ => rfl⟩
  · simp only [Value.cells, List.cons.injEq, and_true] at hc
    simp only [Prod.mk.injEq] at hx
    obtain ⟨rfl, _⟩ := hx
    have hlm : len ≤ m := by rw [hmm]; split <;> omega
    have hb1 : Try.prog.bytesOf 34 = 72 := by kernel_rfl
    have hw := hs ((((List.range len).map D).length + ((List.range (m - len)).map fun j => D (len + j)).length) * Try.prog.bytesOf 34) (by simp [DataW.weights, Try.underlying26])
    rw [hb1] at hw
    simp only [List.length_map, List.length_range] at hw
    have key : ∀ i, i < len → ∃ x : DeedV, (∀ j u, x.cells[j]? = some u → w.cell? (a.add (i * 5 + j)) = some u) ∧ DeedAt w x.ba x.bl x.bc x.ka x.kl x.kc x.X := by
      intro i hil
      obtain ⟨ys, n, hDi, _, hyl, hF⟩ := hi i (by omega)
      have hsD : ∀ k ∈ (D i).weights Try.prog 34, k ≤ reachBytes := fun k hk => hs k (by
        simp only [DataW.weights, Try.underlying26, List.mem_cons, List.mem_append]
        exact .inr (.inl (weightsAll_mem (i := i) (by simp [hil]) hk)))
      rw [hDi] at hsD
      simp only [DataW.weights, Try.underlying34] at hsD
      obtain ⟨v0, y0, c0, e0, t0⟩ := hF 0 _ rfl
      obtain ⟨v1, y1, c1, e1, t1⟩ := hF 1 _ rfl
      obtain ⟨v2, y2, c2, e2, t2⟩ := hF 2 _ rfl
      obtain ⟨v3, y3, c3, e3, t3⟩ := hF 3 _ rfl
      obtain ⟨v4, y4, c4, e4, t4⟩ := hF 4 _ rfl
      obtain ⟨n0, f0, _, w0⟩ := DataW.trod_int Try.underlying3 t0
      obtain ⟨n1, f1, _, w1⟩ := DataW.trod_int Try.underlying3 t1
      obtain ⟨n2, f2, _, w2⟩ := DataW.trod_int Try.underlying3 t2
      obtain ⟨ba, bl, bc, bs, f3, hb⟩ := Try_bytes_open t3 (fun k hk => hsD k (DataW.weights_mem_each (j := 3) (t := 22) (d := y3.1) rfl (by simp [e3]) k hk))
      obtain ⟨ka, kl, kc, ks, f4, hk⟩ := Try_bools_open t4 (fun k hk => hsD k (DataW.weights_mem_each (j := 4) (t := 32) (d := y4.1) rfl (by simp [e4]) k hk))
      simp only [List.cons.injEq, and_true] at f0 f1 f2
      subst f0 f1 f2 f3 f4
      refine ⟨⟨⟨n0, n1, n2, bs, ks⟩, ba, bl, bc, ka, kl, kc⟩, fun j u hu => ?_, ⟨hb, hk, i64_wf w0, i64_wf w1, i64_wf w2⟩⟩
      simp only [DeedV.cells] at hu
      match j, hu with
      | 0, hu => cases hu; exact c0
      | 1, hu => cases hu; exact c1
      | 2, hu => cases hu; exact c2
      | 3, hu => cases hu; exact c3
      | 4, hu => cases hu; exact c4
      | j + 5, hu => simp at hu
    obtain ⟨l, hlen, hl2⟩ := Try_listOf len key
    refine ⟨some a, len, cap, l, hc, fun k x hk => ?_, hlen, hl, by unfold reachBytes at hw; omega, fun e => by cases e⟩
    obtain ⟨b, o, sp⟩ := a
    have hkl := (List.getElem?_eq_some_iff.1 hk).1
    have hcell0 := (hl2 0 _ (List.getElem?_eq_getElem (by omega : 0 < l.length))).1 0 _ rfl
    have hsp := World.cell?_spot hcell0
    have hsp : sp = none := by simpa [Addr.add] using hsp
    subst hsp
    have hbl := World.block_lt_of_cell? _ _ hcell0
    refine ⟨b, o, rfl, by simpa [Addr.add] using hbl, fun j u hu => ?_, (hl2 k x hk).2⟩
    have := (hl2 k x hk).1 j u hu
    rw [Addr.add_lit] at this
    rw [Nat.add_assoc]; exact this
end
end Go.Proofs.Ytmjmjjakhmeogaa
