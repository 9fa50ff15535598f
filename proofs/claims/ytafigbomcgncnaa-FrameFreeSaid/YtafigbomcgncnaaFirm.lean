/-
  A slice that is full, or a row of the call's own: append of zeros and of bytes; the walk of a drawn region operation by operation.
-/
import Derived.Test.YtafigbomcgncnaaZeros
import Derived.Test.YtafigbomcgncnaaBlk
import Derived.RegionTactic
namespace Go.Dav
set_option linter.unusedVariables false
set_option linter.unusedSimpArgs false
open Go Go.RowKit

/-- What lay below n stays, and so do the blocks of another type. -/
structure Grew (n : Nat) (e : TypeId) (W W' : World) : Prop where
  os : W'.os = W.os
  tape : W'.tape = W.tape
  output : W'.output = W.output
  size : W.heap.size ≤ W'.heap.size
  block : ∀ k, k < W.heap.size → (k < n ∨ ∃ cs t fz, W.heap[k]? = some (.cells cs t fz) ∧ t ≠ e) → W'.heap[k]? = W.heap[k]?
theorem Grew.refl (n : Nat) (e : TypeId) (W : World) : Grew n e W W := ⟨rfl, rfl, rfl, Nat.le_refl _, fun _ _ _ => rfl⟩
theorem Grew.trans {n : Nat} {e : TypeId} {A B C : World} (h : Grew n e A B) (k : Grew n e B C) : Grew n e A C :=
  ⟨k.os.trans h.os, k.tape.trans h.tape, k.output.trans h.output, Nat.le_trans h.size k.size, fun j hj hc => by
    have h1 := h.block j hj hc
    refine (k.block j (Nat.lt_of_lt_of_le hj h.size) ?_).trans h1
    rcases hc with hc | ⟨cs, t, fz, h2, h3⟩
    · exact .inl hc
    · exact .inr ⟨cs, t, fz, h1.trans h2, h3⟩⟩
theorem Grew.below {n : Nat} {e : TypeId} {W W' : World} (h : Grew n e W W') (hn : n ≤ W.heap.size) : Below n W W' := ⟨h.os, h.tape, h.output, h.size, fun k hk => h.block k (by omega) (.inl hk)⟩
theorem Grew.blk {n p : Nat} {e t : TypeId} {cs : List Value} {W W' : World} (h : Grew n e W W') (hb : Blk W p cs t) (ht : t ≠ e) : Blk W' p cs t := (h.block p hb.lt (.inr ⟨_, _, _, hb, ht⟩)).trans hb
theorem Grew.of_below {n : Nat} {e : TypeId} {W W' : World} (h : Below W.heap.size W W') : Grew n e W W' := ⟨h.os, h.tape, h.output, h.size, fun k hk _ => h.block k hk⟩
theorem Grew.of_own {n N : Nat} {e : TypeId} {W W' : World} {v : Value} {xs : List Value} (hown : W.ownsRow n e 1 v N xs) (hg : W.grownBy W' v.ownBlock) : Grew n e W W' :=
  ⟨hg.os, hg.tape, hg.output, hg.size, fun k hk hc => hg.block k hk fun e' => by
    rcases hown.2 with ⟨rfl, _⟩ | ⟨g, cap, cur, rfl, hb, hgb, _⟩
    · simp [Value.ownBlock] at e'
    · obtain rfl : k = g := by simpa [Value.ownBlock] using e'
      rcases hc with hc | ⟨cs, t, fz, h2, h3⟩
      · omega
      · rw [hgb] at h2; cases h2; exact h3 rfl⟩

/-- The bytes l: a slice that is full, in the blocks of S, or a row of the call's own. -/
def FirmOf (e : TypeId) (S : Nat → Prop) (n : Nat) (v : Value) (l : List UInt8) (W : World) : Prop :=
  (∃ a, v = .slice a l.length l.length ∧ CellsS W S a l.length (u8s l) ∧ (a = none → l.length = 0)) ∨ W.ownsRow n e 1 v l.length (u8s l)
theorem FirmOf.ext {e : TypeId} {S : Nat → Prop} {n : Nat} {v : Value} {l : List UInt8} {W W' : World} (h : FirmOf e S n v l W) (hb : Below W.heap.size W W') : FirmOf e S n v l W' := by
  rcases h with ⟨a, h1, h2, h3⟩ | h
  · exact .inl ⟨a, h1, h2.ext hb, h3⟩
  · exact .inr (ownsRow_ext h hb)
theorem run_append_op {P : Program} {o : Oper} {a : Act} {W w' : World} {s x : Operand} {t tx : TypeId} {v1 v2 v' : Value} (ho : o.op = .call { callee := .builtin .append, args := #[s, x], argTypes := #[t, tx] }) (hs : a.eval s = v1) (hx : a.eval x = v2)
    (hr : (Builtin.append_ #[t, tx] o.type #[v1, v2]).run P W = .ok v' w') : (execOp a.eval o).run P W = .ok (.value v') w' := by
  unfold execOp
  simp only [ho, resolve, invoke, builtin, Sem.run_bind, Sem.run_pure, Result.andThen_ok, List.map_toArray, List.map_cons, List.map_nil, hs, hx, hr]
theorem CellsS.take {W : World} {S : Nat → Prop} {a : Option Addr} {n k : Nat} {xs : List Value} (h : CellsS W S a n xs) (hk : k ≤ n) : CellsS W S a k (xs.take k) :=
  ⟨by rw [List.length_take, h.len]; omega, fun i v hi => h.at_ i v (by rw [List.getElem?_take] at hi; split at hi <;> first | exact hi | cases hi)⟩
theorem u8s_take (l : List UInt8) (k : Nat) : (u8s l).take k = u8s (l.take k) := by simp [u8s]
theorem ownsRow_set_other {w : World} {base e size n G i : Nat} {t : TypeId} {v u : Value} {xs cs : List Value} (h : w.ownsRow base e size v n xs) (hb : Blk w G cs t) (ht : t ≠ e) : (w.setCell ⟨G, i, none⟩ u).ownsRow base e size v n xs := by
  refine ⟨h.1, ?_⟩
  rcases h.2 with h2 | ⟨g, cap, cur, h1, h2, h3, h4⟩
  · exact .inl h2
  · refine .inr ⟨g, cap, cur, h1, h2, (Below.heap_setCell w ⟨G, i, none⟩ u g (fun e' => ?_)).trans h3, h4⟩
    subst e'
    rw [show w.heap[g]? = _ from hb] at h3
    cases h3; exact ht rfl
theorem Grew.set {n G i : Nat} {e : TypeId} {W W' : World} {u : Value} (h : Grew n e W W') (hG : n ≤ G) : Below n W' (W'.setCell ⟨G, i, none⟩ u) := (Below.refl _ _).setCell (p := ⟨G, i, none⟩) hG u
theorem u8s_zeros (k : Nat) : u8s (List.replicate k 0) = List.replicate k (.int .u8 0) := by simp [u8s]

section
variable {P : Program} {W : World}
theorem firm_zeros (t tn ty e : TypeId) (i : TypeInfo) (kn : IntKind) (ht : P.underlying t = some (.slice e)) (htn : P.underlying tn = some (.int kn)) (hi : P.info? e = some i) (hz : i.zero = some (.int .u8 0)) (hs : i.size = 1) (hb : i.bytes = 1)
    (S : Nat → Prop) (n : Nat) (hn : n ≤ W.heap.size) (v : Value) (l : List UInt8) (h : FirmOf e S n v l W) (k : Nat) (hm : l.length + k ≤ 140737488355328) :
    ∃ v' w', (Builtin.append_ #[t, tn] ty #[v, .int .i64 k]).run P W = .ok v' w' ∧ FirmOf e S n v' (l ++ List.replicate k 0) w' ∧ Grew n e W w' := by
  have hl : (l ++ List.replicate k 0).length = l.length + k := by simp
  rcases h with ⟨a, rfl, h2, h3⟩ | h
  · by_cases h0 : k = 0
    · subst h0
      refine ⟨_, W, run_append_zeros_nothing t tn ty e i .i64 kn ht htn hi a _ _ (Nat.le_refl _), .inl ⟨a, by simp, by simpa using h2, by simpa using h3⟩, Grew.refl _ _ _⟩
    · obtain ⟨v', w', h4, h5, h6⟩ := run_append_zeros_full (P := P) (w := W) n t tn ty e i (.int .u8 0) (.int .u8 0) .i64 kn ht htn hi hz hs hb rfl S a _ _ h2 h3 k (by omega) hm hn
      exact ⟨v', w', h4, .inr (by rw [hl, u8s_append, u8s_zeros]; exact h5), Grew.of_below h6⟩
  · obtain ⟨v', w', h4, h5, h6⟩ := run_append_zeros_own (P := P) (w := W) n t tn ty e i (.int .u8 0) (.int .u8 0) .i64 kn ht htn hi hz hs hb rfl rfl v _ _ h k hm hn
    exact ⟨v', w', h4, .inr (by rw [hl, u8s_append, u8s_zeros]; exact h5), Grew.of_own h h6⟩
theorem firm_append {t e : TypeId} (E : Elem1 P t e 1) (ty : TypeId) (S : Nat → Prop) (n : Nat) (hn : n ≤ W.heap.size) (v : Value) (l : List UInt8) (h : FirmOf e S n v l W) (T : Nat → Prop) (ax : Option Addr) (m c : Nat) (y : List UInt8) (hy : CellsS W T ax m (u8s y)) (hax : ax ≠ none) (hm0 : 0 < m) (hm : l.length + m ≤ 140737488355328) :
    ∃ v' w', (Builtin.append_ #[t, t] ty #[v, .slice ax m c]).run P W = .ok v' w' ∧ W.heap.size ≤ w'.heap.size ∧ w'.ownsRow n e 1 v' (l ++ y).length (u8s (l ++ y)) ∧ Grew n e W w' := by
  have hl : (l ++ y).length = l.length + m := by have := hy.len; rw [u8s_len] at this; simp; omega
  rcases h with ⟨a, rfl, h2, h3⟩ | h
  · obtain ⟨v', w', h4, h5, h6⟩ := run_append_full_own (w := W) E ty n S a _ _ h2 T ax m c _ hy (u8s_one _) h3 hm0 (by unfold maxLen; omega) (by omega) hn
    exact ⟨v', w', h4, h6.size, by rw [hl, u8s_append]; exact h5, Grew.of_below h6⟩
  · obtain ⟨v', w', h4, h5, h6⟩ := run_append_rowS E ty n v _ _ h T ax m c _ hy (u8s_one _) (fun e => (hax e).elim) (by unfold maxLen; omega) (by omega) hn
    exact ⟨v', w', h4, h6.size, by rw [hl, u8s_append]; exact h5, Grew.of_own h h6⟩

variable {md : Region.Mode} {ops : Array Oper} {Q : Exit → Act → World → Prop}
/-- One operation alone may come, and yields. -/
theorem wpAny_runs {i : Nat} {o : Oper} {v : Value} {w w' : World} {a : Act} {fuel : Nat} {listed : Array Bool} (hr : Region.ready md ops listed = [i]) (ho : ops[i]? = some o) (hw : Region.wanted o (yielded ops a.tmps) = true)
    (hrun : (execOp a.eval o).run P w = .ok (.value v) w') (h : wpAny P md ops Q fuel (listed.setIfInBounds i true) (a.put o.dst v) w') : wpAny P md ops Q (fuel + 1) listed a w :=
  wpAny_all hr (by simp) fun j hj => by
    simp at hj; subst hj
    unfold wpOp
    rw [ho]
    simp only [hw, if_true]
    refine .inl ?_
    unfold Oper.wp
    rw [hrun]
    exact h
theorem wpAny_skips {i : Nat} {o : Oper} {w w' : World} {a : Act} {fuel : Nat} {listed : Array Bool} (hr : Region.ready md ops listed = [i]) (ho : ops[i]? = some o) (hw : Region.wanted o (yielded ops a.tmps) = true)
    (hrun : (execOp a.eval o).run P w = .ok .skip w') (h : wpAny P md ops Q fuel (listed.setIfInBounds i true) (a.put o.dst undef) w') : wpAny P md ops Q (fuel + 1) listed a w :=
  wpAny_all hr (by simp) fun j hj => by
    simp at hj; subst hj
    unfold wpOp
    rw [ho]
    simp only [hw, if_true]
    refine .inl ?_
    unfold Oper.wp
    rw [hrun]
    exact h
theorem wpAny_takeD {i : Nat} {oi : Oper} {v : Value} (d : Option Tmp) {fuel : Nat} {listed : Array Bool} {a : Act} {w : World} (hi : ops[i]? = some oi) (hd : oi.dst = d)
    (hs : Region.noSelect ops = true) (hf : Region.free md ops listed i = true) (hr : (Region.ready md ops listed).contains i = true)
    (hQ : ∀ c a w, Q (.panic c) (a.put oi.dst v) w → Q (.panic c) a w) (hy : Yields P ops oi v a)
    (h : wpAny P md ops Q fuel (listed.setIfInBounds i true) (a.put d v) w) : wpAny P md ops Q (fuel + 1) listed a w := by
  subst hd
  exact wpAny_take hi hs hf hr hQ hy h
theorem wpAny_runsD {i : Nat} {o : Oper} {v : Value} {w w' : World} (d : Option Tmp) {a : Act} {fuel : Nat} {listed : Array Bool} (hr : Region.ready md ops listed = [i]) (ho : ops[i]? = some o) (hd : o.dst = d) (hw : Region.wanted o (yielded ops a.tmps) = true)
    (hrun : (execOp a.eval o).run P w = .ok (.value v) w') (h : wpAny P md ops Q fuel (listed.setIfInBounds i true) (a.put d v) w') : wpAny P md ops Q (fuel + 1) listed a w := by
  subst hd
  exact wpAny_runs hr ho hw hrun h
theorem wpAny_skipsD {i : Nat} {o : Oper} {w w' : World} (d : Option Tmp) {a : Act} {fuel : Nat} {listed : Array Bool} (hr : Region.ready md ops listed = [i]) (ho : ops[i]? = some o) (hd : o.dst = d) (hw : Region.wanted o (yielded ops a.tmps) = true)
    (hrun : (execOp a.eval o).run P w = .ok .skip w') (h : wpAny P md ops Q fuel (listed.setIfInBounds i true) (a.put d undef) w') : wpAny P md ops Q (fuel + 1) listed a w := by
  subst hd
  exact wpAny_skips hr ho hw hrun h
end
end Go.Dav
