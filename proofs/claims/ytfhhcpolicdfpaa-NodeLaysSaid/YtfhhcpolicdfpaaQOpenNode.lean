/-
  How the statements' arguments are opened: nodes.
-/
import Derived.Test.YtfhhcpolicdfpaaNdQ
import Derived.Test.YtfhhcpolicdfpaaNdM
import Derived.Lib.SmallJoins
namespace Go.Proofs.Ytfhhcpolicdfpaa
set_option linter.unusedVariables false
set_option linter.unusedSimpArgs false
open Go.ChangeShapes Go.WideShapes Go.ChangeAt Go.RowKit Go.Joins Go.Dav Go.Deep

section
variable {H : Type} {enc : TypeId × Value → H} {w : World} {base : Nat} {spare : Nat → Bool} {held : Bool}

set_option maxRecDepth 100000 in
theorem Try_items_open {fuel : Nat} {v : Value} {y : DataW H × List MemPlace} (h : DataW.trod enc Try.prog w base spare held fuel 25 [v] = some y) (hs : ∀ n ∈ y.1.weights Try.prog 25, n ≤ reachBytes) :
    ∃ (a : Option Addr) (len cap : Nat) (l : List ItemD), v = .slice a len cap ∧ ItemsS w (fun b => b < w.heap.size) a len cap l := by
  rcases open_slice_fields Try.underlying25 Try.underlying56 (by kernel_rfl) (by kernel_rfl) h with ⟨hc, _⟩ | ⟨a, len, cap, m, D, Pl, hc, _, hl, hm, hmm, hx, hi⟩
  · simp only [List.cons.injEq, and_true] at hc
    exact ⟨_, _, _, [], hc, rfl, Nat.le_refl _, by unfold maxLen; omega, by omega, fun k x hk => by simp at hk, fun _ => rfl⟩
  · simp only [List.cons.injEq, and_true] at hc
    obtain ⟨y1, y2⟩ := y
    simp only [Prod.mk.injEq] at hx
    obtain ⟨rfl, _⟩ := hx
    have hlm : len ≤ m := by rw [hmm]; split <;> omega
    have hb1 : Try.prog.bytesOf 56 = 64 := by kernel_rfl
    have hw := hs ((((List.range len).map D).length + ((List.range (m - len)).map fun j => D (len + j)).length) * Try.prog.bytesOf 56) (by simp [DataW.weights, Try.underlying25])
    rw [hb1] at hw
    simp only [List.length_map, List.length_range] at hw
    have key : ∀ i, i < len → ∃ x : ItemD, ∃ ka kl kc va vl vc, (∀ j u, [Value.slice ka kl kc, .slice va vl vc, .bool x.int, .int .i64 x.n][j]? = some u → w.cell? (a.add (i * 4 + j)) = some u) ∧ BytesAt w ka kl kc x.key ∧ BytesAt w va vl vc x.value ∧ I64' x.n := by
      intro i hil
      obtain ⟨ys, n, hDi, _, hyl, hF⟩ := hi i (by omega)
      have hsD : ∀ k ∈ (D i).weights Try.prog 56, k ≤ reachBytes := fun k hk => hs k (by
        simp only [DataW.weights, Try.underlying25, List.mem_cons, List.mem_append]
        exact .inr (.inl (weightsAll_mem (i := i) (by simp [hil]) hk)))
      rw [hDi] at hsD
      simp only [DataW.weights, Try.underlying56] at hsD
      obtain ⟨v0, y0, c0, e0, t0⟩ := hF 0 _ rfl
      obtain ⟨v1, y1, c1, e1, t1⟩ := hF 1 _ rfl
      obtain ⟨v2, y2, c2, e2, t2⟩ := hF 2 _ rfl
      obtain ⟨v3, y3, c3, e3, t3⟩ := hF 3 _ rfl
      obtain ⟨ka, kl, kc, ks, f0, hk0⟩ := Try_bytes_open t0 (fun k hk => hsD k (DataW.weights_mem_each (j := 0) (t := 22) (d := y0.1) rfl (by simp [e0]) k hk))
      obtain ⟨va, vl, vc, vs, f1, hk1⟩ := Try_bytes_open t1 (fun k hk => hsD k (DataW.weights_mem_each (j := 1) (t := 22) (d := y1.1) rfl (by simp [e1]) k hk))
      obtain ⟨b2, f2, _⟩ := DataW.trod_bool Try.underlying4 t2
      obtain ⟨n3, f3, _, w3⟩ := DataW.trod_int Try.underlying2 t3
      simp only [List.cons.injEq, and_true] at f2 f3
      subst f0 f1 f2 f3
      refine ⟨⟨ks, vs, b2, n3⟩, ka, kl, kc, va, vl, vc, fun j u hu => ?_, hk0, hk1, i64_wf w3⟩
      match j, hu with
      | 0, hu => cases hu; exact c0
      | 1, hu => cases hu; exact c1
      | 2, hu => cases hu; exact c2
      | 3, hu => cases hu; exact c3
      | j + 4, hu => simp at hu
    obtain ⟨l, hlen, hl2⟩ := Try_listOf len key
    refine ⟨some a, len, cap, l, hc, hlen, hl, hm, by unfold reachBytes at hw; omega, fun k x hk => ?_, fun e => by cases e⟩
    obtain ⟨b, o, sp⟩ := a
    have hkl := (List.getElem?_eq_some_iff.1 hk).1
    obtain ⟨_, _, _, _, _, _, hz, _⟩ := hl2 0 _ (List.getElem?_eq_getElem (by omega : 0 < l.length))
    have hcell0 := hz 0 _ rfl
    have hsp := World.cell?_spot hcell0
    have hsp : sp = none := by simpa [Addr.add] using hsp
    subst hsp
    have hbl := World.block_lt_of_cell? _ _ hcell0
    have hbl : b < w.heap.size := by simpa [Addr.add] using hbl
    obtain ⟨ka, kl, kc, va, vl, vc, hcl, g1, g2, g3⟩ := hl2 k x hk
    have hcl' : ∀ j u, [Value.slice ka kl kc, .slice va vl vc, .bool x.int, .int .i64 x.n][j]? = some u → w.cell? ⟨b, o + k * 4 + j, none⟩ = some u := fun j u hu => by
      have := hcl j u hu
      rw [Addr.add_lit] at this
      rw [Nat.add_assoc]; exact this
    exact ⟨b, o, ka, kl, kc, va, vl, vc, rfl, hbl, hbl, hcl' 0 _ rfl, hcl' 1 _ rfl, hcl' 2 _ rfl, hcl' 3 _ rfl, g1.s, g2.s, g3⟩

set_option maxRecDepth 100000 in
theorem Try_kids_open {fuel : Nat} {v : Value} {y : DataW H × List MemPlace} (h : DataW.trod enc Try.prog w base spare held fuel 26 [v] = some y) (hs : ∀ n ∈ y.1.weights Try.prog 26, n ≤ reachBytes) :
    ∃ (a : Option Addr) (len cap : Nat) (l : List KidD), v = .slice a len cap ∧ KidsS w (fun b => b < w.heap.size) a len cap l ∧ ∀ x ∈ l, kidFine x := by
  have hC : Try.prog.cellsOf 58 = 8 := by kernel_rfl
  have hC1 : Try.prog.cellsOf 22 = 1 := by kernel_rfl
  have hC2 : Try.prog.cellsOf 3 = 1 := by kernel_rfl
  have hC3 : Try.prog.cellsOf 47 = 6 := by kernel_rfl
  have hC4 : Try.prog.cellsOf 2 = 1 := by kernel_rfl
  have hC5 : Try.prog.cellsOf 45 = 1 := by kernel_rfl
  rcases open_slice Try.underlying26 h with ⟨hc, _⟩ | ⟨a, len, cap, m, n, D, Pl, hc, _, hl, hm, hmm, hx, hi⟩
  · simp only [List.cons.injEq, and_true] at hc
    exact ⟨_, _, _, [], hc, ⟨rfl, Nat.le_refl _, by unfold maxLen; omega, by omega, fun k x hk => by simp at hk, fun _ => rfl⟩, fun x hx => by simp at hx⟩
  · simp only [List.cons.injEq, and_true] at hc
    rw [hC] at hi
    obtain ⟨y1, y2⟩ := y
    simp only [Prod.mk.injEq] at hx
    obtain ⟨rfl, _⟩ := hx
    have hlm : len ≤ m := by rw [hmm]; split <;> omega
    have hb1 : Try.prog.bytesOf 58 = 80 := by kernel_rfl
    have hw := hs ((((List.range len).map D).length + ((List.range (m - len)).map fun j => D (len + j)).length) * Try.prog.bytesOf 58) (by simp [DataW.weights, Try.underlying26])
    rw [hb1] at hw
    simp only [List.length_map, List.length_range] at hw
    have key : ∀ i, i < len → ∃ x : KidD, ∃ ka kl kc, (∀ j u, (Value.slice ka kl kc :: kidVals x)[j]? = some u → w.cell? (a.add (i * 8 + j)) = some u) ∧ BytesAt w ka kl kc x.key ∧ kidFine x := by
      intro i hil
      obtain ⟨cs', hcs, ht'⟩ := hi i (by omega)
      obtain ⟨ys, n', _, hy, hlen, hyl, hf⟩ := DataW.trod_struct Try.underlying58 ht'
      obtain ⟨_, hcl, hat⟩ := World.cells?_some hcs
      simp only [Prod.mk.injEq] at hy
      have hsD : ∀ k ∈ (D i).weights Try.prog 58, k ≤ reachBytes := fun k hk => hs k (by
        simp only [DataW.weights, Try.underlying26, List.mem_cons, List.mem_append]
        exact .inr (.inl (weightsAll_mem (i := i) (by simp [hil]) hk)))
      rw [hy.1] at hsD
      simp only [DataW.weights, Try.underlying58] at hsD
      have hat' : ∀ j u, cs'[j]? = some u → w.cell? (a.add (i * 8 + j)) = some u := fun j u hu => by
        have hj := (List.getElem?_eq_some_iff.1 hu).1
        have := hat j (by omega)
        rw [← Go.Deep.add_add, this, hu]
      obtain ⟨c0, c1, c2, c3, c4, c5, c6, c7, rfl⟩ : ∃ c0 c1 c2 c3 c4 c5 c6 c7, cs' = [c0, c1, c2, c3, c4, c5, c6, c7] := by
        match cs', hcl with
        | [c0, c1, c2, c3, c4, c5, c6, c7], _ => exact ⟨c0, c1, c2, c3, c4, c5, c6, c7, rfl⟩
      obtain ⟨y0, y1, y2, rfl⟩ : ∃ y0 y1 y2, ys = [y0, y1, y2] := by
        match ys, hyl with
        | [y0, y1, y2], _ => exact ⟨y0, y1, y2, rfl⟩
      have t0 : DataW.trod enc Try.prog w base spare held n' 22 [c0] = some y0 := by simpa [hC1] using hf 0 _ rfl
      have t1 : DataW.trod enc Try.prog w base spare held n' 3 [c1] = some y1 := by simpa [hC2] using hf 1 _ rfl
      have t2 : DataW.trod enc Try.prog w base spare held n' 47 [c2, c3, c4, c5, c6, c7] = some y2 := by simpa [hC3] using hf 2 _ rfl
      obtain ⟨zs, n'', _, _, _, hzl, hg⟩ := DataW.trod_struct Try.underlying47 t2
      obtain ⟨z0, z1, z2, z3, z4, z5, rfl⟩ : ∃ z0 z1 z2 z3 z4 z5, zs = [z0, z1, z2, z3, z4, z5] := by
        match zs, hzl with
        | [z0, z1, z2, z3, z4, z5], _ => exact ⟨z0, z1, z2, z3, z4, z5, rfl⟩
      have r0 : DataW.trod enc Try.prog w base spare held n'' 3 [c2] = some z0 := by simpa [hC2] using hg 0 _ rfl
      have r1 : DataW.trod enc Try.prog w base spare held n'' 3 [c3] = some z1 := by simpa [hC2] using hg 1 _ rfl
      have r2 : DataW.trod enc Try.prog w base spare held n'' 2 [c4] = some z2 := by simpa [hC4] using hg 2 _ rfl
      have r3 : DataW.trod enc Try.prog w base spare held n'' 45 [c5] = some z3 := by simpa [hC5] using hg 3 _ rfl
      have r4 : DataW.trod enc Try.prog w base spare held n'' 2 [c6] = some z4 := by simpa [hC4] using hg 4 _ rfl
      have r5 : DataW.trod enc Try.prog w base spare held n'' 2 [c7] = some z5 := by simpa [hC4] using hg 5 _ rfl
      obtain ⟨ka, kl, kc, ks, f0, hk0⟩ := Try_bytes_open t0 (fun k hk => hsD k (DataW.weights_mem_each (j := 0) (t := 22) (d := y0.1) rfl rfl k hk))
      obtain ⟨at_, f1, _, w1⟩ := DataW.trod_int Try.underlying3 t1
      obtain ⟨m0, e0, _, u0⟩ := DataW.trod_int Try.underlying3 r0
      obtain ⟨m1, e1, _, u1⟩ := DataW.trod_int Try.underlying3 r1
      obtain ⟨m2, e2, _, u2⟩ := DataW.trod_int Try.underlying2 r2
      obtain ⟨m3, e3, _, u3⟩ := DataW.trod_int Try.underlying45 r3
      obtain ⟨m4, e4, _, u4⟩ := DataW.trod_int Try.underlying2 r4
      obtain ⟨m5, e5, _, u5⟩ := DataW.trod_int Try.underlying2 r5
      simp only [List.cons.injEq, and_true] at f1 e0 e1 e2 e3 e4 e5
      subst f0 f1 e0 e1 e2 e3 e4 e5
      have hlo := u64_of_wf u3
      have p1 := pair_hi (i64_of_wf u2) hlo.1 (show m3 < 18446744073709551616 by omega)
      have p2 := pair_lo (h := m2) hlo.1 (show m3 < 18446744073709551616 by omega)
      refine ⟨⟨ks, at_, ⟨m0, m1, m2 * 18446744073709551616 + m3, m4, m5⟩⟩, ka, kl, kc, fun j u hu => hat' j u ?_, hk0, i64_wf w1, ⟨i64_of_wf u0, i64_of_wf u1, i64_of_wf u4, i64_of_wf u5⟩, ?_⟩
      · simpa only [kidVals, p1, p2] using hu
      · unfold Red.canon; simp only; rw [p1, p2]
    obtain ⟨l, hlen, hl2⟩ := Try_listOf len key
    refine ⟨some a, len, cap, l, hc, ⟨hlen, hl, hm, by unfold reachBytes at hw; omega, fun k x hk => ?_, fun e => by cases e⟩, fun x hx => ?_⟩
    · obtain ⟨b, o, sp⟩ := a
      have hkl := (List.getElem?_eq_some_iff.1 hk).1
      obtain ⟨_, _, _, hz, _⟩ := hl2 0 _ (List.getElem?_eq_getElem (by omega : 0 < l.length))
      have hcell0 := hz 0 _ rfl
      have hsp := World.cell?_spot hcell0
      have hsp : sp = none := by simpa [Addr.add] using hsp
      subst hsp
      have hbl := World.block_lt_of_cell? _ _ hcell0
      have hbl : b < w.heap.size := by simpa [Addr.add] using hbl
      obtain ⟨ka, kl, kc, hcl, g1, g2⟩ := hl2 k x hk
      have hcl' : ∀ j u, (Value.slice ka kl kc :: kidVals x)[j]? = some u → w.cell? ⟨b, o + k * 8 + j, none⟩ = some u := fun j u hu => by
        have := hcl j u hu
        rw [Addr.add_lit] at this
        rw [Nat.add_assoc]; exact this
      exact ⟨b, o, ka, kl, kc, rfl, hbl, hbl, hcl' 0 _ rfl, hcl' 1 _ rfl, hcl' 2 _ rfl, hcl' 3 _ rfl, hcl' 4 _ rfl, hcl' 5 _ rfl, hcl' 6 _ rfl, hcl' 7 _ rfl, g1.s, g2.1, g2.2.1⟩
    · obtain ⟨i, hi', e⟩ := List.mem_iff_getElem.1 hx
      obtain ⟨_, _, _, _, _, g⟩ := hl2 i x (by rw [List.getElem?_eq_getElem hi', e])
      exact g

set_option maxRecDepth 100000 in
theorem Try_node_open {r : Reach} {b0 : Nat} {v : Value} {d : DataW H} {p : List MemPlace} (hv : Value.okWide Try.prog w r b0 28 v) (h : DataW.Trod enc Try.prog w base spare held 28 v d p) (hs : ∀ n ∈ d.weights Try.prog 28, n ≤ reachBytes) :
    ∃ (ia : Option Addr) (il ic : Nat) (ka : Option Addr) (kl kc : Nat) (N : NodeD), v = .agg #[.bool N.leaf, .slice ia il ic, .slice ka kl kc] ∧ NodeS w (fun b => b < w.heap.size) ia il ic ka kl kc N ∧ nodeFine N := by
  obtain ⟨z0, z1, z2, u0, u1, u2, fv, rfl, rfl, rfl, i0, i1, i2⟩ := open_agg3 Try.underlying28 (by kernel_rfl) (by kernel_rfl) hv h
  have hmem : ∀ n, (n ∈ u1.1.weights Try.prog 25 ∨ n ∈ u2.1.weights Try.prog 26) → n ≤ reachBytes := fun n hn => hs n (by
    simp only [DataW.weights, Try.underlying28, List.map_cons, List.map_nil, DataW.weightsEach, List.mem_append]
    rcases hn with h | h
    · exact .inr (.inl h)
    · exact .inr (.inr (.inl h)))
  obtain ⟨b, f0, _⟩ := DataW.trod_bool Try.underlying4 i0
  obtain ⟨ia, il, ic, I, rfl, hI⟩ := Try_items_open i1 (fun n hn => hmem n (.inl hn))
  obtain ⟨ka, kl, kc, K, rfl, hK, hKf⟩ := Try_kids_open i2 (fun n hn => hmem n (.inr hn))
  simp only [List.cons.injEq, and_true] at f0
  subst f0
  refine ⟨ia, il, ic, ka, kl, kc, ⟨b, I, K⟩, rfl, ⟨hI, hK⟩, fun x hx => ?_, hKf⟩
  obtain ⟨i, hi', e⟩ := List.mem_iff_getElem.1 hx
  obtain ⟨_, _, _, _, _, _, _, _, _, _, _, _, _, _, _, _, _, g⟩ := hI.hat i x (by rw [List.getElem?_eq_getElem hi', e])
  exact g
end
end Go.Proofs.Ytfhhcpolicdfpaa
