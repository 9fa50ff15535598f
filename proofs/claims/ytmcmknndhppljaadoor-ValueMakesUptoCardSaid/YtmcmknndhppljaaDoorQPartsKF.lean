/-
  A region that draws its order, one of whose operations writes into memory that was there, and in which some operations (a part of a tuple, a copy) may also come after the stores at its end.
-/
import Derived.Test.YtmcmknndhppljaaDoorVbD
import Derived.Test.YtmcmknndhppljaaDoorVbC
namespace Go.Dav
set_option linter.unusedVariables false
set_option linter.unusedSimpArgs false
open Go Go.RowKit
section
variable {P : Program} {ops : Array Oper} {K0 : World → World → Prop} {p0 : Nat}
theorem plain_yieldsK {K : World → World → Prop} {o : Oper} {a : Act} {W : World} {R : Value → World → Prop} (hp : plainB o = true) (h : GivesK P K o a W R) :
    ∃ v, Yields P ops o v a ∧ R v W := by
  unfold plainB at hp
  simp only [Bool.and_eq_true, Option.isNone_iff_eq_none] at hp
  have hw : Region.wanted o (yielded ops a.tmps) = true := by unfold Region.wanted; rw [hp.1]
  have hop := hp.2
  cases he : o.op with
  | move x =>
    have hr : ∀ w, (execOp a.eval o).run P w = .ok (.value (a.eval x)) w := fun w => by
      simp only [execOp, he]
      rfl
    unfold GivesK at h
    rw [hr] at h
    exact ⟨_, .inl ⟨hw, hr⟩, h.2⟩
  | extract x k =>
    unfold GivesK at h
    cases hx : a.eval x with
    | tuple vs =>
      cases hk : vs[k]? with
      | some v =>
        have hr : ∀ w, (execOp a.eval o).run P w = .ok (.value v) w := fun w => by
          simp only [execOp, he, hx]
          simp [Instr.extract, hk, go_sem]
        rw [hr] at h
        exact ⟨_, .inl ⟨hw, hr⟩, h.2⟩
      | none =>
        exfalso
        simp only [execOp, he, hx] at h
        simp [Instr.extract, hk, go_sem] at h
    | _ =>
      exfalso
      simp only [execOp, he, hx] at h
      simp [Instr.extract, go_sem] at h
  | _ => rw [he] at hop; cases hop

/-- What an operation of the head gives, wherever its turn comes. -/
theorem mid_givesK {n : Nat} {ps : Nat → Value ⊕ (Value → World → Prop)} {a0 : Act} {w0 : World} {listed : Array Bool} {vs : Nat → Value} {a : Act} {W : World}
    (hB : tidyB ops n = true) (hsel : Region.noSelect ops = true)
    (hop : ∀ vs i, i < n → stepForK P K0 p0 ops ps a0 w0 vs i) (inv : HeadInv .any ops n listed) (mid : MidK K0 p0 ops n ps a0 w0 listed vs a W)
    {i : Nat} {oi : Oper} (hr : i ∈ Region.ready .any ops listed) (hin : i < n) (hoi : ops[i]? = some oi) (hg : oi.guard = none) : GivesK P (relOf K0 p0 i) oi a W (holdsOf (ps i)) := by
  obtain ⟨hun, oi', hoi', hall⟩ := mem_ready.1 hr
  obtain rfl : oi' = oi := Option.some.inj (hoi'.symm.trans hoi)
  have hunf : listed.getD i false = false := getD_both hun
  have later : ∀ j oj d, j < n → ops[j]? = some oj → oj.dst = some d → listed.getD j false = true → (d ∈ oi'.looksAt ops ∨ oi'.dst = some d) → j < i := by
    intro j oj d hj hoj hd hl hlook
    have hji : i ≠ j := fun e => by subst e; rw [hunf] at hl; cases hl
    obtain ⟨_, h1, _⟩ := tidy_spec hB hin hj hoi hoj hd (hlook.imp id fun h => ⟨h, hji⟩)
    rcases Nat.lt_trichotomy i j with h | h | h
    · obtain ⟨oj', hoj', e, he, hb, hon⟩ := Region.waitsFor_spec (h1 h)
      have := inv.closed j oj' hoj' hl e he hb
      rw [hon, hunf] at this
      cases this
    · exact absurd h hji
    · exact h
  have early : ∀ j oj d, j < i → ops[j]? = some oj → oj.dst = some d → (d ∈ oi'.looksAt ops) → listed.getD j false = true := by
    intro j oj d hj hoj hd hlook
    obtain ⟨_, _, h2⟩ := tidy_spec hB hin (by omega) hoi hoj hd (.inl hlook)
    obtain ⟨oi2, hoi2, e, he, hb, hon⟩ := Region.waitsFor_spec (h2 hj)
    have : oi2 = oi' := Option.some.inj (hoi2.symm.trans hoi)
    subst this
    have := hall e he hb
    rwa [hon] at this
  have looks : ∀ t ∈ oi'.looksAt ops, (lay ops vs a0 i).tmps[t]? = a.tmps[t]? := by
    intro t ht
    rw [lay_get, mid.slots t]
    unfold slotOf
    rw [lastW_eq (ops := ops) (t := t) (p := fun _ => true) (q := fun j => listed.getD j false) (m := i) (n := n) ?_]
    intro j
    constructor
    · rintro ⟨h1, _, h3⟩
      obtain ⟨oj, hoj, hd⟩ := Option.bind_eq_some_iff.1 h3
      exact ⟨by omega, early j oj t h1 hoj hd ht, h3⟩
    · rintro ⟨h1, h2, h3⟩
      obtain ⟨oj, hoj, hd⟩ := Option.bind_eq_some_iff.1 h3
      exact ⟨later j oj t h1 hoj hd h2 (.inl ht), rfl, h3⟩
  have hdeps : depsHold ops ps vs oi' W i := depsHold_of i fun j d hj hd hl => by
    obtain ⟨oj, hoj, hd'⟩ := Option.bind_eq_some_iff.1 hd
    exact mid.held j (by omega) (early j oj d hj hoj hd' hl)
  have hs := hop vs i hin
  unfold stepForK at hs
  simp only [hoi] at hs
  have hs := hs W mid.ext (fun e => mid.ext2 (by rw [← e]; exact hunf)) hdeps
  have hw : Region.wanted oi' (yielded ops (lay ops vs a0 i).tmps) = true := by unfold Region.wanted; rw [hg]
  rw [if_pos hw] at hs
  exact hs.of_eval (exec_congr (fun cs b => Region.noSelect_spec hsel i oi' cs b hoi) (fun t ht => (looks t ht).symm))

/-- What holds behind an operation of the head. -/
theorem mid_putK (g : Goes K0) {n : Nat} {ps : Nat → Value ⊕ (Value → World → Prop)} {a0 : Act} {w0 : World} {listed : Array Bool} {vs : Nat → Value} {a : Act} {W : World}
    (hB : tidyB ops n = true) (inv : HeadInv .any ops n listed) (mid : MidK K0 p0 ops n ps a0 w0 listed vs a W)
    {i : Nat} {oi : Oper} (hr : i ∈ Region.ready .any ops listed) (hin : i < n) (hoi : ops[i]? = some oi) {v : Value} (hv : holdsOf (ps i) v W) :
    MidK K0 p0 ops n ps a0 w0 (listed.setIfInBounds i true) (fun j => if j = i then v else vs j) (a.put oi.dst v) W := by
  obtain ⟨hun, oi', hoi', hall⟩ := mem_ready.1 hr
  obtain rfl : oi' = oi := Option.some.inj (hoi'.symm.trans hoi)
  have hunf : listed.getD i false = false := getD_both hun
  have hisz : i < listed.size := by rw [inv.size]; exact (Array.getElem?_eq_some_iff.1 hoi).1
  have later : ∀ j oj d, j < n → ops[j]? = some oj → oj.dst = some d → listed.getD j false = true → (d ∈ oi'.looksAt ops ∨ oi'.dst = some d) → j < i := by
    intro j oj d hj hoj hd hl hlook
    have hji : i ≠ j := fun e => by subst e; rw [hunf] at hl; cases hl
    obtain ⟨_, h1, _⟩ := tidy_spec hB hin hj hoi hoj hd (hlook.imp id fun h => ⟨h, hji⟩)
    rcases Nat.lt_trichotomy i j with h | h | h
    · obtain ⟨oj', hoj', e, he, hb, hon⟩ := Region.waitsFor_spec (h1 h)
      have := inv.closed j oj' hoj' hl e he hb
      rw [hon, hunf] at this
      cases this
    · exact absurd h hji
    · exact h
  refine ⟨mid.ext, fun hp0 => mid.ext2 (if e : p0 = i then by rw [e]; exact hunf else by rwa [getD_set_ne false (Ne.symm e)] at hp0), by rw [put_size, mid.size], by rw [put_defers, mid.defers], fun t => ?_, fun j hj hl => ?_⟩
  · rw [put_get, mid.size]
    unfold slotOf
    by_cases hd : oi'.dst = some t
    · simp only [hd, if_true]
      have : lastW ops (fun j => (listed.setIfInBounds i true).getD j false) t n = some i := by
        cases hc : lastW ops (fun j => (listed.setIfInBounds i true).getD j false) t n with
        | none => exact absurd ⟨by simp [hisz], by simp [hoi, hd]⟩ (lastW_none hc i hin)
        | some j =>
          obtain ⟨c1, c2, c3, c4⟩ := lastW_some hc
          obtain ⟨oj, hoj, hdj⟩ := Option.bind_eq_some_iff.1 c3
          by_cases e : j = i
          · rw [e]
          · have hlj : listed.getD j false = true := by rwa [getD_set_ne false (Ne.symm e)] at c2
            have := later j oj t c1 hoj hdj hlj (.inr hd)
            exact absurd ⟨by simp [hisz], by simp [hoi, hd]⟩ (c4 i this hin)
      rw [this]
      simp
    · simp only [hd, if_false]
      rw [mid.slots t]
      unfold slotOf
      have : lastW ops (fun j => (listed.setIfInBounds i true).getD j false) t n = lastW ops (fun j => listed.getD j false) t n := by
        refine lastW_eq fun j => ?_
        by_cases e : j = i
        · subst e; simp [hoi, hd]
        · rw [getD_set_ne false (Ne.symm e)]
      rw [this]
      cases hc : lastW ops (fun j => listed.getD j false) t n with
      | none => rfl
      | some j =>
        obtain ⟨c1, c2, c3, c4⟩ := lastW_some hc
        have e : j ≠ i := fun e => by subst e; simp [hoi, hd] at c3
        simp [e]
  · by_cases e : j = i
    · subst e; simpa using hv
    · simp only [e, if_false]
      have hl' : listed.getD j false = true := by rwa [getD_set_ne false (Ne.symm e)] at hl
      exact mid.held j hj hl'

theorem wpAny_of_midKF (g : Goes K0) {n : Nat} {F : List Nat} {ps : Nat → Value ⊕ (Value → World → Prop)} {a0 : Act} {w0 : World} {Q : Exit → Act → World → Prop} {l : List Oper}
    (hl : ∀ j : Nat, l[j]? = ops[n + j]?) (hll : l.length = ops.size - n)
    (hB : partsFB ops n F = true) (hst : ∀ j R, ps j = .inr R → staysK K0 p0 j R)
    (hQ : ∀ c a d v w, Q (.panic c) (Act.put a d v) w → Q (.panic c) a w)
    (hop : ∀ vs i, i < n → stepForK P K0 p0 ops ps a0 w0 vs i)
    (hend : ∀ vs W, K0 w0 W → allHold ps vs W n → wpList P ops Q l (lay ops vs a0 n) W) :
    ∀ (f : Nat) (listed : Array Bool) (vs : Nat → Value) (a : Act) (W : World), HeadInv .any ops n listed → MidK K0 p0 ops n ps a0 w0 listed vs a W → cnt listed n = f →
      wpAny P .any ops Q (f + (ops.size - n)) listed a W := by
  simp only [partsFB, Bool.and_eq_true, decide_eq_true_eq, Bool.not_eq_true'] at hB
  obtain ⟨⟨⟨⟨⟨⟨⟨hsel, htidy⟩, hback⟩, hn⟩, hsink, hchain⟩, hfree⟩, hseq⟩, hFn⟩ := hB
  intro f
  induction f with
  | zero =>
    intro listed vs a W inv mid hc
    have hall := cnt_zero listed n hc
    have hlisted : listed = (Array.range ops.size).map fun j => decide (j < n) := by
      apply Array.ext
      · simp [inv.size]
      · intro j h1 h2
        simp only [Array.getElem_map, Array.getElem_range]
        by_cases hj : j < n
        · have := hall j hj
          simp only [h1, Array.getD_eq_getD_getElem?, Array.getElem?_eq_getElem, Option.getD_some] at this
          simp [hj, this]
        · have := getD_both (inv.tail j (by omega) (by simpa using h2))
          simp only [h1, Array.getD_eq_getD_getElem?, Array.getElem?_eq_getElem, Option.getD_some] at this
          simp [hj, this]
    have ha : a = lay ops vs a0 n := act_ext (fun t => by
      rw [lay_get, mid.slots t]
      unfold slotOf
      rw [lastW_eq (ops := ops) (t := t) (p := fun j => listed.getD j false) (q := fun _ => true) (m := n) (n := n) ?_]
      intro j
      constructor
      · rintro ⟨h1, _, h3⟩; exact ⟨h1, rfl, h3⟩
      · rintro ⟨h1, _, h3⟩; exact ⟨h1, hall j h1, h3⟩) (by rw [mid.defers, lay_defers])
    have h := hend vs W mid.ext (allHold_of n fun j hj => mid.held j hj (hall j hj))
    rw [Nat.zero_add, ← hll]
    rw [← hlisted, ← hll] at hseq
    rw [ha]
    exact wpAny_of_seq l n listed _ W hl hseq h
  | succ f ih =>
    intro listed vs a W inv mid hc
    obtain ⟨i0, hi0, hu0, hlow⟩ := least_unlisted listed n (by omega)
    rw [show f + 1 + (ops.size - n) = (f + (ops.size - n)) + 1 by omega]
    have hr0 : i0 ∈ Region.ready .any ops listed := by
      have h1 := List.all_eq_true.1 hback i0 (List.mem_range.2 hi0)
      cases ho : ops[i0]? with
      | none => simp [ho] at h1
      | some o =>
        simp only [ho] at h1
        refine mem_ready.2 ⟨getD_in (by rw [inv.size]; omega) hu0, o, ho, fun e he hb => ?_⟩
        have h2 := Array.all_eq_true'.1 h1 e he
        simp only [hb, Bool.not_true, Bool.false_or, decide_eq_true_eq] at h2
        exact hlow e.on h2
    by_cases hex : ∃ i1, i1 < n ∧ F.contains i1 = false ∧ listed.getD i1 false = false
    · obtain ⟨i1, hi1, hf1, hu1⟩ := hex
      refine ⟨fun h => (by rw [h] at hr0; cases hr0), fun i hi => ?_⟩
      have hin : i < n := by
        rcases Nat.lt_or_ge i n with h | h
        · exact h
        · exact absurd hi (tail_waitsF hsink hchain hn hFn inv _ i1 rfl hi1 hf1 (getD_in (by rw [inv.size]; omega) hu1) i h)
      have hun := (mem_ready.1 hi).1
      refine mid_stepK g htidy hsel hst hop inv mid hi hin fun vs' a' W' inv' mid' => ih _ vs' a' W' inv' mid' ?_
      have := cnt_set listed i (by rw [inv.size]; omega) (getD_both hun) n hin
      omega
    · have hF0 : F.contains i0 = true := by
        cases h : F.contains i0 with
        | true => rfl
        | false => exact absurd ⟨i0, hi0, h, hu0⟩ hex
      obtain ⟨_, oi, hoi, hpl, hap⟩ := free_spec hfree hF0
      have hg := mid_givesK htidy hsel hop inv mid hr0 hi0 hoi (by simp only [plainB, Bool.and_eq_true, Option.isNone_iff_eq_none] at hpl; exact hpl.1)
      obtain ⟨v, hy, hv⟩ := plain_yieldsK (ops := ops) hpl hg
      have hun := (mem_ready.1 hr0).1
      refine wpAny_first (v := v) hoi (fun j o cs b ho => Region.noSelect_spec hsel j o cs b ho) (fun c a w h => hQ c a _ _ w h) _ listed a W (fun j oj hj hji hjun hno => hap j oj hj hji (fun ⟨h1, h2⟩ => hex ⟨j, h1, h2, getD_both hjun⟩) hno) hr0 hy ?_
      refine ih _ (fun j => if j = i0 then v else vs j) _ W (inv.set hr0 hi0) (mid_putK g htidy inv mid hr0 hi0 hoi hv) ?_
      have := cnt_set listed i0 (by rw [inv.size]; omega) (getD_both hun) n hi0
      omega

theorem wp_region_partsKF (g : Goes K0) (F : List Nat) {id : Nat} {ops : List Oper} {Q : Exit → Act → World → Prop} {a : Act} {w : World} (n : Nat) (ps : Nat → Value ⊕ (Value → World → Prop)) (hm : P.follows .mixedOrders = true) (hB : partsFB ops.toArray n F = true)
    (hst : ∀ j R, ps j = .inr R → staysK K0 p0 j R)
    (hQ : ∀ c a d v w, Q (.panic c) (Act.put a d v) w → Q (.panic c) a w)
    (hop : ∀ vs i, i < n → stepForK P K0 p0 ops.toArray ps a w vs i)
    (hend : ∀ vs W, K0 w W → allHold ps vs W n → wpList P ops.toArray Q (ops.drop n) (lay ops.toArray vs a n) W) : (Code.region id ops.toArray true).wp P Q a w := by
  have hn : n ≤ ops.toArray.size := by
    simp only [partsFB, Bool.and_eq_true, decide_eq_true_eq] at hB
    exact Nat.le_of_lt hB.1.1.1.1.2
  have he : K0 w { w with drawn := w.drawn + 1 } := g.bel _ _ (Below.refl _ _).drew
  have hc : ∀ m, cnt (Array.replicate ops.toArray.size false) m = m := fun m => by
    induction m with
    | zero => rfl
    | succ m ih => rw [cnt, ih, getD_replicate_false]; rfl
  refine wp_region_any hm ?_
  have := wpAny_of_midKF g (P := P) (ops := ops.toArray) (l := ops.drop n) (fun j => by simp [List.getElem?_drop]) (by simp) hB hst hQ hop hend n (Array.replicate ops.toArray.size false) (fun _ => undef) a { w with drawn := w.drawn + 1 }
    ⟨by simp, fun j oj _ hl => (by rw [getD_replicate_false] at hl; cases hl), fun t _ ht => getD_in (by simpa using ht) (getD_replicate_false _ _)⟩
    ⟨he, fun _ => (Below.refl _ _).drew, rfl, rfl, fun t => ?_, fun j _ hl => (by rw [getD_replicate_false] at hl; cases hl)⟩ (hc n)
  · rwa [show n + (ops.toArray.size - n) = ops.toArray.size by omega] at this
  · unfold slotOf
    rw [show lastW ops.toArray (fun j => (Array.replicate ops.toArray.size false).getD j false) t n = none from ?_]
    cases h : lastW ops.toArray (fun j => (Array.replicate ops.toArray.size false).getD j false) t n with
    | none => rfl
    | some j => have := (lastW_some h).2.1; rw [getD_replicate_false] at this; cases this

end
section
variable {P : Program}
/-- **A region that draws its order**, walked in the order of the text; operation p0 may write as K0 says; F lists the operations that may also come after the stores at its end. -/
theorem wp_region_seqKF (K0 : World → World → Prop) (g : Goes K0) (p0 : Nat) (F : List Nat) {id : Nat} {l : List Oper} {Q : Exit → Act → World → Prop} {a : Act} {w : World} (ps : List Piece) (hm : P.follows .mixedOrders = true) (hB : partsFB l.toArray ps.length F = true)
    (h : wpPartsK P K0 p0 l.toArray w (noPanic Q) 0 l ps [] a) : (Code.region id l.toArray true).wp P Q a w := by
  refine Code.wp_mono (Q := noPanic Q) (fun e a w h => h.of) ?_
  have hn : ps.length ≤ l.length := by
    simp only [partsFB, Bool.and_eq_true, decide_eq_true_eq] at hB
    have := hB.1.1.1.1.2
    simp at this
    omega
  have hsel : Region.noSelect l.toArray = true := by
    simp only [partsFB, Bool.and_eq_true] at hB
    exact hB.1.1.1.1.1.1.1
  have spec := fun vs => parts_specK (P := P) (K0 := K0) (p0 := p0) (ops := l.toArray) (w := w) (Q := noPanic Q) (a := a) (qs := fun i => (ps[i]?).getD (.inl undef)) vs l ps 0 (fun j => by simp) (fun j p hj => by simp [hj]) hn h
  refine wp_region_partsKF (K0 := K0) (p0 := p0) g F ps.length (fun i => (ps[i]?).getD (.inl undef)) hm hB ?_ (fun _ _ _ _ _ h => h) ?_ ?_
  · intro j R hj
    by_cases hlt : j < ps.length
    · exact (spec (fun _ => undef)).2.1 j R (by omega) (by omega) hj
    · have : ps[j]? = none := by simp; omega
      simp [this] at hj
  · intro vs i hi
    unfold stepForK
    obtain ⟨o, ho, hs⟩ := (spec vs).1 i (by omega) (by omega)
    rw [ho]
    intro W hW hW2 hd
    have hs := hs W hW hW2 (near_of hd)
    have looks : ∀ t ∈ o.looksAt l.toArray, (lay l.toArray (fixed (fun i => (ps[i]?).getD (.inl undef)) vs) a i).tmps[t]? = (lay l.toArray vs a i).tmps[t]? := by
      intro t ht
      rw [lay_get, lay_get]
      unfold slotOf
      cases hc : lastW l.toArray (fun _ => true) t i with
      | none => rfl
      | some j =>
        obtain ⟨c1, _, c3, _⟩ := lastW_some hc
        simp only
        rw [fixed_eq (depsHold_get hd j t c1 c3 ht)]
    rw [wanted_congr looks] at hs
    simp only
    split
    · rename_i hw; rw [if_pos hw] at hs
      refine hs.of_eval (exec_congr (fun cs b => Region.noSelect_spec hsel i o cs b ho) (fun t ht => (looks t ht).symm))
    · rename_i hw; rw [if_neg hw] at hs; exact hs
  · intro vs W hW hall
    have := (spec vs).2.2 W hW (every_of (by simpa using hall))
    have e : lay l.toArray (fixed (fun i => (ps[i]?).getD (.inl undef)) vs) a ps.length = lay l.toArray vs a ps.length := act_ext (fun t => by
      rw [lay_get, lay_get]
      unfold slotOf
      cases hc : lastW l.toArray (fun _ => true) t ps.length with
      | none => rfl
      | some j =>
        obtain ⟨c1, _, _, _⟩ := lastW_some hc
        simp only
        rw [fixed_eq (allHold_get hall j c1)]) (by rw [lay_defers, lay_defers])
    rw [Nat.zero_add, e] at this
    exact this

end
end Go.Dav
