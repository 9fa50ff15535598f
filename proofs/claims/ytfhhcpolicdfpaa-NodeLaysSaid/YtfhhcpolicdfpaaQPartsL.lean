/-
  As PartsK: the operation that writes has no destination (a store); what it brings about is known at the end.
-/
import Derived.Test.YtfhhcpolicdfpaaNdE
namespace Go.Dav
set_option linter.unusedVariables false
set_option linter.unusedSimpArgs false
open Go Go.RowKit
section
variable {P : Program} {K0 : World → World → Prop} {p0 : Nat}
def wpPartsL (P : Program) (K0 : World → World → Prop) (E : World → Prop) (p0 : Nat) (ops : Array Oper) (w : World) (Q : Exit → Act → World → Prop) : Nat → List Oper → List Piece → List (Tmp × (World → Prop)) → Act → Prop
  | k, o :: os, .inl v :: ps, G, a =>
    (if Region.wanted o (yielded ops a.tmps) then (∀ W, K0 w W → (k = p0 → Below w.heap.size w W) → near ops o G W → GivesK P (relOf K0 p0 k) o a W (fun u _ => u = v)) else undef = v) ∧ wpPartsL P K0 E p0 ops w Q (k + 1) os ps G (a.put o.dst v)
  | k, o :: os, .inr R :: ps, G, a =>
    (staysK K0 p0 k R ∧ Region.wanted o (yielded ops a.tmps) = true ∧ (∀ W, K0 w W → (k = p0 → Below w.heap.size w W) → near ops o G W → GivesK P (relOf K0 p0 k) o a W R)) ∧
      ∀ u, wpPartsL P K0 E p0 ops w Q (k + 1) os ps (match o.dst with | some d => (d, R u) :: G | none => G) (a.put o.dst u)
  | _, os, _, G, a => ∀ W, K0 w W → every G W → E W → wpList P ops Q os a W

end

section
variable {P : Program} {ops : Array Oper} {K0 : World → World → Prop} {p0 : Nat}

/-- What the walk in the order of the text says of each operation, and of what stands behind. -/
theorem parts_specL {E : World → Prop} {w : World} {Q : Exit → Act → World → Prop} {a : Act} {qs : Nat → Piece} (vs : Nat → Value) :
    ∀ (l : List Oper) (ps : List Piece) (k : Nat), (∀ j : Nat, l[j]? = ops[k + j]?) → (∀ j p, ps[j]? = some p → qs (k + j) = p) → ps.length ≤ l.length →
      wpPartsL P K0 E p0 ops w Q k l ps (facts ops qs vs k) (lay ops (fixed qs vs) a k) →
      (∀ i, k ≤ i → i < k + ps.length → ∃ o, ops[i]? = some o ∧ ∀ W, K0 w W → (i = p0 → Below w.heap.size w W) → near ops o (facts ops qs vs i) W →
        (if Region.wanted o (yielded ops (lay ops (fixed qs vs) a i).tmps) then GivesK P (relOf K0 p0 i) o (lay ops (fixed qs vs) a i) W (holdsOf (qs i)) else holdsOf (qs i) undef W)) ∧
      (∀ i R, k ≤ i → i < k + ps.length → qs i = .inr R → staysK K0 p0 i R) ∧
      (∀ W, K0 w W → every (facts ops qs vs (k + ps.length)) W → E W → wpList P ops Q (l.drop ps.length) (lay ops (fixed qs vs) a (k + ps.length)) W)
  | l, [], k, _, _, _, h => by
    refine ⟨fun i h1 h2 => ?_, fun i R h1 h2 => ?_, ?_⟩
    · simp at h2; omega
    · simp at h2; omega
    · cases l <;> simpa [wpPartsL] using h
  | [], _ :: _, _, _, _, hlen, _ => by simp at hlen
  | o :: l, p :: ps, k, hl, hq, hlen, h => by
    have h0 : ops[k]? = some o := by simpa using (hl 0).symm
    have hp : qs k = p := by simpa using hq 0 p rfl
    have hb : (ops[k]?).bind (·.dst) = o.dst := by rw [h0]; rfl
    have rest := fun (h' : wpPartsL P K0 E p0 ops w Q (k + 1) l ps (facts ops qs vs (k + 1)) (lay ops (fixed qs vs) a (k + 1))) => parts_specL vs l ps (k + 1) (fun j => by have := hl (j + 1); simpa [Nat.add_assoc, Nat.add_comm 1 j] using this)
      (fun j q hj => by have := hq (j + 1) q (by simpa using hj); simpa [Nat.add_assoc, Nat.add_comm 1 j] using this) (by simpa using hlen) h'
    have key : wpPartsL P K0 E p0 ops w Q (k + 1) l ps (facts ops qs vs (k + 1)) (lay ops (fixed qs vs) a (k + 1)) ∧
        (∀ R, p = .inr R → staysK K0 p0 k R) ∧
        ∀ W, K0 w W → (k = p0 → Below w.heap.size w W) → near ops o (facts ops qs vs k) W →
          (if Region.wanted o (yielded ops (lay ops (fixed qs vs) a k).tmps) then GivesK P (relOf K0 p0 k) o (lay ops (fixed qs vs) a k) W (holdsOf p) else holdsOf p undef W) := by
      cases p with
      | inl v =>
        obtain ⟨h1, h2⟩ := h
        have e : fixed qs vs k = v := by unfold fixed; rw [hp]
        refine ⟨by rw [facts, hp, lay, hb, e]; exact h2, (fun R hR => by cases hR), fun W hW hW2 hn => ?_⟩
        split
        · rename_i hw; rw [if_pos hw] at h1; exact h1 W hW hW2 hn
        · rename_i hw; rw [if_neg hw] at h1; exact h1
      | inr R =>
        obtain ⟨⟨h1, h3, h4⟩, h2⟩ := h
        have e : fixed qs vs k = vs k := by unfold fixed; rw [hp]
        refine ⟨?_, (fun R' hR => by cases hR; exact h1), fun W hW hW2 hn => by rw [if_pos h3]; exact h4 W hW hW2 hn⟩
        have := h2 (vs k)
        rw [facts, hp, lay, hb, e]
        cases hd : o.dst <;> simpa [hd] using this
    obtain ⟨r1, r2, r3⟩ := rest key.1
    have hl' : k + (p :: ps).length = k + 1 + ps.length := by simp; omega
    refine ⟨fun i h1 h2 => ?_, fun i R h1 h2 hR => ?_, ?_⟩
    · by_cases e : i = k
      · subst e; exact ⟨o, h0, by rw [hp]; exact key.2.2⟩
      · exact r1 i (by omega) (by omega)
    · by_cases e : i = k
      · subst e; exact key.2.1 R (by rw [← hp, hR])
      · exact r2 i R (by omega) (by omega) hR
    · rw [hl']; simpa using r3

/-- **A region that draws its order**, walked in the order of the text; operation p0 may write as K0 says. -/
theorem wp_region_seqL (K0 : World → World → Prop) (g : Goes K0) (p0 : Nat) (E : World → Prop) {id : Nat} {l : List Oper} {Q : Exit → Act → World → Prop} {a : Act} {w : World} (ps : List Piece) (hm : P.follows .mixedOrders = true) (hB : partsB l.toArray ps.length = true) (hE : ∃ R, ps[p0]? = some (.inr R) ∧ ∀ v W, R v W → E W)
    (h : wpPartsL P K0 E p0 l.toArray w Q 0 l ps [] a) : (Code.region id l.toArray true).wp P Q a w := by
  have hn : ps.length ≤ l.length := by
    simp only [partsB, Bool.and_eq_true, decide_eq_true_eq] at hB
    simpa using hB.1.1.2
  have spec := fun vs => parts_specL (P := P) (K0 := K0) (E := E) (p0 := p0) (ops := l.toArray) (w := w) (Q := Q) (a := a) (qs := fun i => (ps[i]?).getD (.inl undef)) vs l ps 0 (fun j => by simp) (fun j p hj => by simp [hj]) hn h
  refine wp_region_partsK (K0 := K0) (p0 := p0) g ps.length (fun i => (ps[i]?).getD (.inl undef)) hm hB ?_ ?_ ?_
  · intro j R hj
    by_cases hlt : j < ps.length
    · exact (spec (fun _ => undef)).2.1 j R (by omega) (by omega) hj
    · have : ps[j]? = none := by simp; omega
      simp [this] at hj
  · intro vs i hi
    unfold stepForK
    obtain ⟨o, ho, hs⟩ := (spec vs).1 i (by omega) (by omega)
    rw [ho]
    intro W hW hW2 hd
    have hs := hs W hW hW2 (near_of hd)
    have looks : ∀ t ∈ o.looksAt l.toArray, (lay l.toArray (fixed (fun i => (ps[i]?).getD (.inl undef)) vs) a i).tmps[t]? = (lay l.toArray vs a i).tmps[t]? := by
      intro t ht
      rw [lay_get, lay_get]
      unfold slotOf
      cases hc : lastW l.toArray (fun _ => true) t i with
      | none => rfl
      | some j =>
        obtain ⟨c1, _, c3, _⟩ := lastW_some hc
        simp only
        rw [fixed_eq (depsHold_get hd j t c1 c3 ht)]
    rw [wanted_congr looks] at hs
    simp only
    split
    · rename_i hw; rw [if_pos hw] at hs
      refine hs.of_eval (exec_congr (fun cs b => Region.noSelect_spec (by simp only [partsB, Bool.and_eq_true] at hB; exact hB.1.1.1.1.1) i o cs b ho) (fun t ht => (looks t ht).symm))
    · rename_i hw; rw [if_neg hw] at hs; exact hs
  · intro vs W hW hall
    have hEW : E W := by
      obtain ⟨R, hR, hRE⟩ := hE
      have h1 := allHold_get hall p0 (by have := (List.getElem?_eq_some_iff.1 hR).1; omega)
      simp only [hR] at h1
      exact hRE _ _ h1
    have := (spec vs).2.2 W hW (every_of (by simpa using hall)) hEW
    have e : lay l.toArray (fixed (fun i => (ps[i]?).getD (.inl undef)) vs) a ps.length = lay l.toArray vs a ps.length := act_ext (fun t => by
      rw [lay_get, lay_get]
      unfold slotOf
      cases hc : lastW l.toArray (fun _ => true) t ps.length with
      | none => rfl
      | some j =>
        obtain ⟨c1, _, _, _⟩ := lastW_some hc
        simp only
        rw [fixed_eq (allHold_get hall j c1)]) (by rw [lay_defers, lay_defers])
    rw [Nat.zero_add, e] at this
    exact this

end

section
variable {P : Program} {ops : Array Oper} {w : World} {Q : Exit → Act → World → Prop} {o : Oper} {os : List Oper} {ps : List Piece} {G : List (Tmp × (World → Prop))} {a : Act} {K0 : World → World → Prop} {E : World → Prop} {p0 k : Nat}

/-- One operation, whose value is known. -/
theorem wpPartsL_det {v : Value} (hk : k ≠ p0) (hw : Region.wanted o (yielded ops a.tmps) = true) (h : ∀ W, K0 w W → near ops o G W → Gives P o a W (fun u _ => u = v))
    (hr : wpPartsL P K0 E p0 ops w Q (k + 1) os ps G (a.put o.dst v)) : wpPartsL P K0 E p0 ops w Q k (o :: os) (.inl v :: ps) G a := by
  unfold wpPartsL
  rw [if_pos hw]
  exact ⟨fun W h1 _ h2 => gives_rel hk (h W h1 h2), hr⟩
/-- One operation of whose value something is known. -/
theorem wpPartsL_any {d : Tmp} {R : Value → World → Prop} (hk : k ≠ p0) (hd : o.dst = some d) (hst : ∀ v W W', R v W → Below W.heap.size W W' → R v W') (hst2 : ∀ v W W', R v W → K0 W W' → R v W') (hw : Region.wanted o (yielded ops a.tmps) = true)
    (h : ∀ W, K0 w W → near ops o G W → Gives P o a W R) (hr : ∀ u, wpPartsL P K0 E p0 ops w Q (k + 1) os ps ((d, R u) :: G) (a.put (some d) u)) : wpPartsL P K0 E p0 ops w Q k (o :: os) (.inr R :: ps) G a := by
  unfold wpPartsL
  refine ⟨⟨⟨hst, fun _ => hst2⟩, hw, fun W h1 _ h2 => gives_rel hk (h W h1 h2)⟩, fun u => ?_⟩
  simp only [hd]
  exact hr u
/-- The one operation that writes. -/
theorem wpPartsL_writes {R : Value → World → Prop} (hk : k = p0) (hd : o.dst = none) (hst : ∀ v W W', R v W → Below W.heap.size W W' → R v W') (hw : Region.wanted o (yielded ops a.tmps) = true)
    (h : ∀ W, Below w.heap.size w W → near ops o G W → GivesK P K0 o a W R) (hr : ∀ u, wpPartsL P K0 E p0 ops w Q (k + 1) os ps G (a.put none u)) : wpPartsL P K0 E p0 ops w Q k (o :: os) (.inr R :: ps) G a := by
  unfold wpPartsL
  refine ⟨⟨⟨hst, fun hn => absurd hk hn⟩, hw, fun W _ h0 h2 => gives_relW hk (h W (h0 hk) h2)⟩, fun u => ?_⟩
  simp only [hd]
  exact hr u
theorem wpPartsL_end (h : ∀ W, K0 w W → every G W → E W → wpList P ops Q os a W) : wpPartsL P K0 E p0 ops w Q k os [] G a := by
  cases os <;> (unfold wpPartsL; exact h)
end
end Go.Dav
