/-
  How the statements' arguments are opened: slices of pairs (a key and a JSON value); in the form with a bound.
-/
import Derived.Test.YtmcmknndhppljaaDoorQOpenVals
namespace Go.Proofs.YtmcmknndhppljaaDoor
set_option linter.unusedVariables false
set_option linter.unusedSimpArgs false
open Go.ChangeShapes Go.WideShapes Go.ChangeAt Go.RowKit Go.Joins Go.Dav Go.Deep
section
variable {H : Type} {enc : TypeId × Value → H} {w : World} {base : Nat} {spare : Nat → Bool} {held : Bool}

set_option maxRecDepth 100000 in
/-- A pair. -/
theorem Tryd_pair_open (n : Nat) {fuel : Nat} {cs : List Value} {y : DataW H × List MemPlace} (h : DataW.trod enc Tryd.prog w base spare held fuel 56 cs = some y) (hb : Rows.uptoBulk y.1 ≤ n) (hn : n ≤ 1048576) :
    ∃ e : PairE, cs = e.cells ∧ e.key.size ≤ 17592186044416 ∧ ∃ x : ValN n, ValAt w n e.agg x := by
  have hC : Tryd.prog.cellsOf 56 = 6 := by kernel_rfl
  have hC1 : Tryd.prog.cellsOf 9 = 1 := by kernel_rfl
  have hC2 : Tryd.prog.cellsOf 39 = 5 := by kernel_rfl
  obtain ⟨ys, n', _, hy, hcl, hyl, hf⟩ := DataW.trod_struct Tryd.underlying56 h
  rw [hC] at hcl
  obtain ⟨c0, c1, c2, c3, c4, c5, rfl⟩ : ∃ c0 c1 c2 c3 c4 c5, cs = [c0, c1, c2, c3, c4, c5] := by
    match cs, hcl with
    | [c0, c1, c2, c3, c4, c5], _ => exact ⟨c0, c1, c2, c3, c4, c5, rfl⟩
  obtain ⟨y0, y1, rfl⟩ : ∃ y0 y1, ys = [y0, y1] := by
    match ys, hyl with
    | [y0, y1], _ => exact ⟨y0, y1, rfl⟩
  rw [hy] at hb
  simp only [Rows.uptoBulk, Rows.uptoBulkAll, List.map_cons, List.map_nil] at hb
  have t0 : DataW.trod enc Tryd.prog w base spare held n' 9 [c0] = some y0 := by simpa [hC1] using hf 0 _ rfl
  have t1 : DataW.trod enc Tryd.prog w base spare held n' 39 [c1, c2, c3, c4, c5] = some y1 := by simpa [hC1, hC2] using hf 1 _ rfl
  obtain ⟨s, f0, hs⟩ := Tryd_str_open t0 (by omega)
  simp only [List.cons.injEq, and_true] at f0
  subst f0
  obtain ⟨x, hx⟩ := Tryd_value_open n t1 (by omega) hn
  obtain ⟨k, m, s2, a1, l1, d1, a2, l2, d2, he⟩ := Tryd_agg_cells hx
  simp only [List.cons.injEq, and_true] at he
  obtain ⟨rfl, rfl, rfl, rfl, rfl⟩ := he
  exact ⟨⟨s, k, m, s2, a1, l1, d1, a2, l2, d2⟩, rfl, by show s.size ≤ _; omega, x, hx⟩

set_option maxRecDepth 100000 in
/-- Pairs, as an argument. -/
theorem Tryd_pairs_arg {r : Reach} {b0 : Nat} {v : Value} {d : DataW H} {p : List MemPlace} (hv : Value.okWide Tryd.prog w r b0 48 v) (h : DataW.Trod enc Tryd.prog w base spare held 48 v d p) (hb : Rows.uptoBulk d ≤ 1048576) :
    ∃ (N : Nat) (a : Option Addr) (n c : Nat) (l : List PairE), v = .slice a n c ∧ l.length = n ∧ FlatAt w a (flatE l) ∧ (a = none → c = 0) ∧ n ≤ c ∧ c ≤ maxLen ∧ n ≤ 1048576 ∧ (∀ e ∈ l, ValAt w N e.agg (pickV w N e)) ∧ ∀ e ∈ l, e.key.size ≤ 17592186044416 := by
  have hC : Tryd.prog.cellsOf 56 = 6 := by kernel_rfl
  obtain ⟨a0, len0, cap0, rfl⟩ := okWide_slice Tryd.underlying48 hv
  obtain ⟨fuel, hf⟩ := h
  obtain ⟨N, hN⟩ : ∃ N, N = 1048576 := ⟨_, rfl⟩
  refine ⟨N, ?_⟩
  rcases open_slice Tryd.underlying48 hf with ⟨hc, _⟩ | ⟨a, len, cap, m, n2, D, Pl, hc, _, hl, hm, hmm, hx, hi⟩
  · simp only [Value.cells, List.cons.injEq, and_true] at hc
    exact ⟨none, 0, 0, [], hc, rfl, fun j u hj => by simp [flatE] at hj, fun _ => rfl, Nat.le_refl _, by unfold maxLen; omega, by omega, fun e he => by simp at he, fun e he => by simp at he⟩
  · simp only [Value.cells, List.cons.injEq, and_true] at hc
    rw [hC] at hi
    simp only [Prod.mk.injEq] at hx
    obtain ⟨rfl, _⟩ := hx
    have hlm : len ≤ m := by rw [hmm]; split <;> omega
    simp only [Rows.uptoBulk] at hb
    have hlen0 := Tryd_bulk_len ((List.range len).map D)
    simp only [List.length_map, List.length_range] at hlen0
    have key : ∀ i, i < len → ∃ e : PairE, (∀ j u, e.cells[j]? = some u → w.cell? (a.add (i * 6 + j)) = some u) ∧ ValAt w N e.agg (pickV w N e) ∧ e.key.size ≤ 17592186044416 := by
      intro i hil
      obtain ⟨cs', hcs, ht'⟩ := hi i (by omega)
      have hpart := Tryd_bulk_part (d := D i) (l := (List.range len).map D) (by simp; exact ⟨i, hil, rfl⟩)
      obtain ⟨e, he, hk, x, hx⟩ := Tryd_pair_open N ht' (by rw [hN]; simp only; omega) (by omega)
      obtain ⟨_, hcl', hat⟩ := World.cells?_some hcs
      refine ⟨e, fun j u hu => ?_, pickV_at hx, hk⟩
      have hj : j < 6 := (List.getElem?_eq_some_iff.1 hu).1
      have := hat j (by omega)
      rw [← Go.Deep.add_add, this, he]
      exact hu
    obtain ⟨l, hlen, hl2⟩ := Tryd_listOfV len key
    refine ⟨some a, len, cap, l, hc, hlen, ?_, (fun e => by cases e), hl, hm, by omega, fun e he => ?_, fun e he => ?_⟩
    · intro j u hu
      have hj := (List.getElem?_eq_some_iff.1 hu).1
      rw [flatE_len] at hj
      obtain ⟨e, he⟩ : ∃ e, l[j / 6]? = some e := ⟨_, List.getElem?_eq_getElem (by omega)⟩
      obtain ⟨u2, hu2⟩ : ∃ u2, e.cells[j % 6]? = some u2 := ⟨_, List.getElem?_eq_getElem (by simp [PairE.cells]; omega)⟩
      have h6 := flatE_get (e := e) (j := j % 6) he hu2 []
      rw [List.append_nil, show j / 6 * 6 + j % 6 = j by omega] at h6
      have hcell := (hl2 (j / 6) e he).1 (j % 6) u (by rw [hu2, ← h6, hu])
      rw [show j / 6 * 6 + j % 6 = j by omega] at hcell
      obtain ⟨b, o, sp⟩ := a
      obtain ⟨e0, he0⟩ : ∃ e0, l[0]? = some e0 := ⟨_, List.getElem?_eq_getElem (by omega)⟩
      have hz := (hl2 0 e0 he0).1 0 (.string e0.key) rfl
      have hsp := World.cell?_spot hz
      have hsp : sp = none := by simpa [Addr.add] using hsp
      subst hsp
      have hbl := World.block_lt_of_cell? _ _ hz
      exact ⟨b, o, rfl, by simpa [Addr.add] using hbl, by rw [Addr.add_mid] at hcell; exact hcell⟩
    · obtain ⟨i, hi'⟩ := List.getElem?_of_mem he
      exact (hl2 i e hi').2.1
    · obtain ⟨i, hi'⟩ := List.getElem?_of_mem he
      exact (hl2 i e hi').2.2
set_option maxRecDepth 100000 in
theorem Tryd_str_arg {r : Reach} {b0 : Nat} {v : Value} {d : DataW H} {p : List MemPlace} (hv : Value.okWide Tryd.prog w r b0 9 v) (h : DataW.Trod enc Tryd.prog w base spare held 9 v d p) (hb : Rows.uptoBulk d ≤ 1048576) : ∃ s : ByteArray, v = .string s ∧ s.size ≤ 1048576 := by
  obtain ⟨s, rfl⟩ := okWide_string Tryd.underlying9 hv
  obtain ⟨fuel, hf⟩ := h
  obtain ⟨s2, h1, h2⟩ := Tryd_str_open hf hb
  simp only [Value.cells, List.cons.injEq, Value.string.injEq, and_true] at h1
  exact ⟨s, rfl, h1 ▸ h2⟩
end
end Go.Proofs.YtmcmknndhppljaaDoor
