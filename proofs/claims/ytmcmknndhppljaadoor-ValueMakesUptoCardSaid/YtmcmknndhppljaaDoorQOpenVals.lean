/-
  How the statements' arguments are opened: slices of JSON values, of pairs; in the form with a bound.
-/
import Derived.Test.YtmcmknndhppljaaDoorVbC
import Derived.Test.YtmcmknndhppljaaDoorQLstA
namespace Go.Dav
set_option linter.unusedVariables false
set_option linter.unusedSimpArgs false
open Go Go.RowKit
def valDef : (d : Nat) → ValN d
  | 0 => ()
  | _ + 1 => (⟨0, 0, noStr, [], []⟩ : ValF (ValN _))
open Classical in
/-- The value that cells are, if they are one. -/
noncomputable def pickV (w : World) (d : Nat) (e : PairE) : ValN d := if h : ∃ x, ValAt w d e.agg x then Classical.choose h else valDef d
theorem pickV_at {w : World} {d : Nat} {e : PairE} {x : ValN d} (h : ValAt w d e.agg x) : ValAt w d e.agg (pickV w d e) := by
  have hx : ∃ x, ValAt w d e.agg x := ⟨x, h⟩
  unfold pickV
  rw [dif_pos hx]
  exact Classical.choose_spec hx
end Go.Dav
namespace Go.Proofs.YtmcmknndhppljaaDoor
set_option linter.unusedVariables false
set_option linter.unusedSimpArgs false
open Go.ChangeShapes Go.WideShapes Go.ChangeAt Go.RowKit Go.Joins Go.Dav Go.Deep
section
variable {H : Type} {enc : TypeId × Value → H} {w : World} {base : Nat} {spare : Nat → Bool} {held : Bool}

theorem Tryd_agg_cells {w : World} {d : Nat} {cs : List Value} {x : ValN d} (h : ValAt w d (.agg cs.toArray) x) : ∃ k n s a1 l1 c1 a2 l2 c2, cs = [.int .i64 k, .int .i64 n, .string s, .slice a1 l1 c1, .slice a2 l2 c2] := by
  obtain ⟨k, n, s, a1, l1, c1, a2, l2, c2, e⟩ := h.agg
  refine ⟨k, n, s, a1, l1, c1, a2, l2, c2, ?_⟩
  have := congrArg (fun v => match v with | Value.agg cs => cs.toList | _ => []) e
  simpa using this

set_option maxRecDepth 100000 in
/-- Values, as an argument. -/
theorem Tryd_values_arg {r : Reach} {b0 : Nat} {v : Value} {d : DataW H} {p : List MemPlace} (hv : Value.okWide Tryd.prog w r b0 36 v) (h : DataW.Trod enc Tryd.prog w base spare held 36 v d p) (hb : Rows.uptoBulk d ≤ 1048576) :
    ∃ (N : Nat) (a : Option Addr) (n c : Nat) (l : List PairE), v = .slice a n c ∧ l.length = n ∧ FlatAt w a (flatW l) ∧ (a = none → c = 0) ∧ n ≤ c ∧ c ≤ maxLen ∧ n ≤ 1048576 ∧ ∀ e ∈ l, ValAt w N e.agg (pickV w N e) := by
  have hC : Tryd.prog.cellsOf 39 = 5 := by kernel_rfl
  obtain ⟨a0, len0, cap0, rfl⟩ := okWide_slice Tryd.underlying36 hv
  obtain ⟨fuel, hf⟩ := h
  obtain ⟨N, hN⟩ : ∃ N, N = 1048576 := ⟨_, rfl⟩
  refine ⟨N, ?_⟩
  rcases open_slice Tryd.underlying36 hf with ⟨hc, _⟩ | ⟨a, len, cap, m, n2, D, Pl, hc, _, hl, hm, hmm, hx, hi⟩
  · simp only [Value.cells, List.cons.injEq, and_true] at hc
    exact ⟨none, 0, 0, [], hc, rfl, fun j u hj => by simp [flatW] at hj, fun _ => rfl, Nat.le_refl _, by unfold maxLen; omega, by omega, fun e he => by simp at he⟩
  · simp only [Value.cells, List.cons.injEq, and_true] at hc
    rw [hC] at hi
    simp only [Prod.mk.injEq] at hx
    obtain ⟨rfl, _⟩ := hx
    have hlm : len ≤ m := by rw [hmm]; split <;> omega
    simp only [Rows.uptoBulk] at hb
    have hlen0 := Tryd_bulk_len ((List.range len).map D)
    simp only [List.length_map, List.length_range] at hlen0
    have key : ∀ i, i < len → ∃ e : PairE, (∀ j u, e.vcells[j]? = some u → w.cell? (a.add (i * 5 + j)) = some u) ∧ ValAt w N e.agg (pickV w N e) := by
      intro i hil
      obtain ⟨cs', hcs, ht'⟩ := hi i (by omega)
      have hpart := Tryd_bulk_part (d := D i) (l := (List.range len).map D) (by simp; exact ⟨i, hil, rfl⟩)
      obtain ⟨x, hx⟩ := Tryd_value_open N ht' (by rw [hN]; simp only; omega) (by omega)
      obtain ⟨_, hcl', hat⟩ := World.cells?_some hcs
      obtain ⟨k, n, s, a1, l1, c1, a2, l2, c2, rfl⟩ := Tryd_agg_cells hx
      refine ⟨⟨noStr, k, n, s, a1, l1, c1, a2, l2, c2⟩, fun j u hu => ?_, pickV_at (e := ⟨noStr, k, n, s, a1, l1, c1, a2, l2, c2⟩) (x := x) hx⟩
      have hj : j < 5 := (List.getElem?_eq_some_iff.1 hu).1
      have := hat j (by omega)
      rw [← Go.Deep.add_add, this]
      exact hu
    obtain ⟨l, hlen, hl2⟩ := Tryd_listOfV len key
    refine ⟨some a, len, cap, l, hc, hlen, ?_, (fun e => by cases e), hl, hm, by omega, fun e he => ?_⟩
    · intro j u hu
      have hj := (List.getElem?_eq_some_iff.1 hu).1
      rw [flatW_len] at hj
      obtain ⟨e, he⟩ : ∃ e, l[j / 5]? = some e := ⟨_, List.getElem?_eq_getElem (by omega)⟩
      have h5 := vflat_get (e := e) (j := j % 5) (Nat.mod_lt _ (by omega)) l (j / 5) he
      rw [show j / 5 * 5 + j % 5 = j by omega] at h5
      have hcell := (hl2 (j / 5) e he).1 (j % 5) u (by rw [← h5]; exact hu)
      rw [show j / 5 * 5 + j % 5 = j by omega] at hcell
      obtain ⟨b, o, sp⟩ := a
      obtain ⟨e0, he0⟩ : ∃ e0, l[0]? = some e0 := ⟨_, List.getElem?_eq_getElem (by omega)⟩
      have hz := (hl2 0 e0 he0).1 0 (.int .i64 e0.k) rfl
      have hsp := World.cell?_spot hz
      have hsp : sp = none := by simpa [Addr.add] using hsp
      subst hsp
      have hbl := World.block_lt_of_cell? _ _ hz
      exact ⟨b, o, rfl, by simpa [Addr.add] using hbl, by rw [Addr.add_mid] at hcell; exact hcell⟩
    · obtain ⟨i, hi'⟩ := List.getElem?_of_mem he
      exact (hl2 i e hi').2
end
end Go.Proofs.YtmcmknndhppljaaDoor
