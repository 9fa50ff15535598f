/-
  A region that draws its order, in which some operations (a part of a tuple, a copy) may also come after the stores at its end.
  The law's helpers: few, all.
  Files, in plain: bytes that stay, pieces that may be lost; what each operation makes of them.
  Slices of one-cell elements: what they hold; append to one that is full, or to a row of the call's own, from whatever slice.
  The reference of layer 1: Is, Bytes, Starts, walked.
-/
import Derived.Test.YtmcmknndhppljaaDoorMonoidSmallA
import Derived.Test.YtmcmknndhppljaaDoorMonoidSmallB
import Derived.Laws.AppendOwn
import Derived.Deep.Upon
import Derived.Deep.MidRow
import Derived.Laws.OwnMore
import Derived.Tactics
import Derived.OwnWalk
import Derived.Test.YtmcmknndhppljaaDoorProg
import Derived.WalkKit
import Derived.Lib.Hide
import Derived.BigQuiet
namespace Go.Dav
set_option linter.unusedVariables false
set_option linter.unusedSimpArgs false
open Go Go.RowKit

section
variable {P : Program} {ops : Array Oper}

/-- A part of a tuple, a copy: what it yields hangs on no world. -/
def plainB (o : Oper) : Bool := o.guard.isNone && match o.op with
  | .extract _ _ => true
  | .move _ => true
  | _ => false

/-- The free ones are plain, and apart from what stands behind and from one another. -/
def freeB (ops : Array Oper) (n : Nat) (F : List Nat) : Bool :=
  F.all fun i => decide (i < n) && match ops[i]? with
    | none => false
    | some oi => plainB oi && (List.range ops.size).all fun j => j == i || (decide (j < n) && !F.contains j) || match ops[j]? with
      | some oj => oj.after.any (fun e => Region.binds .any e && e.on == i) || oi.apart ops oj
      | none => true

/-- Every one that is not free is waited for, by one behind it that is not free. -/
def sinkFB (ops : Array Oper) (n : Nat) (F : List Nat) : Bool :=
  (List.range n).all fun i => F.contains i || (List.range (n + 1)).any fun j => decide (i < j) && !F.contains j && Region.waitsFor .any ops j i

def partsFB (ops : Array Oper) (n : Nat) (F : List Nat) : Bool :=
  Region.noSelect ops && tidyB ops n && backB ops n && decide (n < ops.size) && (sinkFB ops n F && Region.chainB .any ops n) && freeB ops n F &&
    Region.seqB .any ops (ops.size - n) n ((Array.range ops.size).map fun j => decide (j < n)) && !F.contains n

theorem tail_waitsF {n : Nat} {F : List Nat} {listed : Array Bool} (hs : sinkFB ops n F = true) (hc : Region.chainB .any ops n = true) (hn : n < ops.size) (hF : F.contains n = false) (inv : HeadInv .any ops n listed) :
    ∀ (d i : Nat), n - i = d → i < n → F.contains i = false → listed.getD i true = false → ∀ t, n ≤ t → t ∉ Region.ready .any ops listed := by
  intro d
  induction d using Nat.strongRecOn with
  | _ d ih =>
    intro i hd hi hfi hun t ht hr
    obtain ⟨_, ot, hot, hall⟩ := mem_ready.1 hr
    have htlt : t < ops.size := (Array.getElem?_eq_some_iff.1 hot).1
    by_cases htn : t = n
    · subst htn
      have h1 := List.all_eq_true.1 hs i (List.mem_range.2 hi)
      rw [hfi, Bool.false_or] at h1
      obtain ⟨j, hj, hj2⟩ := List.any_eq_true.1 h1
      simp only [Bool.and_eq_true, decide_eq_true_eq, Bool.not_eq_true'] at hj2
      obtain ⟨oj, hoj, e, he, hb, hon⟩ := Region.waitsFor_spec hj2.2
      have hjle : j ≤ t := by have := List.mem_range.1 hj; omega
      by_cases hjt : j = t
      · subst hjt
        have : oj = ot := Option.some.inj (hoj.symm.trans hot)
        subst this
        have h2 := hall e he hb
        rw [hon, getD_both hun] at h2
        cases h2
      · cases hl : listed.getD j false with
        | true =>
          have h2 := inv.closed j oj hoj hl e he hb
          rw [hon, getD_both hun] at h2
          cases h2
        | false =>
          have hjs : j < listed.size := by rw [inv.size]; omega
          exact ih (t - j) (by omega) j rfl (by omega) hj2.1.2 (getD_in hjs hl) t (Nat.le_refl _) hr
    · have h1 := List.all_eq_true.1 hc t (List.mem_range.2 htlt)
      simp only [Bool.or_eq_true, decide_eq_true_eq] at h1
      rcases h1 with h1 | h1
      · omega
      · obtain ⟨o', ho', e, he, hb, hon⟩ := Region.waitsFor_spec h1
        have : o' = ot := Option.some.inj (ho'.symm.trans hot)
        subst this
        have h2 := hall e he hb
        rw [hon, getD_both (inv.tail (t - 1) (by omega) (by omega))] at h2
        cases h2

/-- A plain operation yields what it yields in whatever world. -/
theorem plain_yields {o : Oper} {a : Act} {W : World} {R : Value → World → Prop} (hp : plainB o = true) (h : Gives P o a W R) :
    ∃ v, Yields P ops o v a ∧ R v W := by
  unfold plainB at hp
  simp only [Bool.and_eq_true, Option.isNone_iff_eq_none] at hp
  have hw : Region.wanted o (yielded ops a.tmps) = true := by unfold Region.wanted; rw [hp.1]
  have hop := hp.2
  cases he : o.op with
  | move x =>
    have hr : ∀ w, (execOp a.eval o).run P w = .ok (.value (a.eval x)) w := fun w => by
      simp only [execOp, he]
      rfl
    unfold Gives at h
    rw [hr] at h
    exact ⟨_, .inl ⟨hw, hr⟩, h.2⟩
  | extract x k =>
    unfold Gives at h
    cases hx : a.eval x with
    | tuple vs =>
      cases hk : vs[k]? with
      | some v =>
        have hr : ∀ w, (execOp a.eval o).run P w = .ok (.value v) w := fun w => by
          simp only [execOp, he, hx]
          simp [Instr.extract, hk, go_sem]
        rw [hr] at h
        exact ⟨_, .inl ⟨hw, hr⟩, h.2⟩
      | none =>
        exfalso
        simp only [execOp, he, hx] at h
        simp [Instr.extract, hk, go_sem] at h
    | _ =>
      exfalso
      simp only [execOp, he, hx] at h
      simp [Instr.extract, go_sem] at h
  | _ => rw [he] at hop; cases hop

/-- What an operation of the head gives, wherever its turn comes. -/
theorem mid_gives {n : Nat} {ps : Nat → Value ⊕ (Value → World → Prop)} {a0 : Act} {w0 : World} {listed : Array Bool} {vs : Nat → Value} {a : Act} {W : World}
    (hB : tidyB ops n = true) (hsel : Region.noSelect ops = true)
    (hop : ∀ vs i, i < n → stepFor P ops ps a0 w0 vs i) (inv : HeadInv .any ops n listed) (mid : Mid ops n ps a0 w0 listed vs a W)
    {i : Nat} {oi : Oper} (hr : i ∈ Region.ready .any ops listed) (hin : i < n) (hoi : ops[i]? = some oi) (hg : oi.guard = none) : Gives P oi a W (holdsOf (ps i)) := by
  obtain ⟨hun, oi', hoi', hall⟩ := mem_ready.1 hr
  obtain rfl : oi' = oi := Option.some.inj (hoi'.symm.trans hoi)
  have hunf : listed.getD i false = false := getD_both hun
  have later : ∀ j oj d, j < n → ops[j]? = some oj → oj.dst = some d → listed.getD j false = true → (d ∈ oi'.looksAt ops ∨ oi'.dst = some d) → j < i := by
    intro j oj d hj hoj hd hl hlook
    have hji : i ≠ j := fun e => by subst e; rw [hunf] at hl; cases hl
    obtain ⟨_, h1, _⟩ := tidy_spec hB hin hj hoi hoj hd (hlook.imp id fun h => ⟨h, hji⟩)
    rcases Nat.lt_trichotomy i j with h | h | h
    · obtain ⟨oj', hoj', e, he, hb, hon⟩ := Region.waitsFor_spec (h1 h)
      have := inv.closed j oj' hoj' hl e he hb
      rw [hon, hunf] at this
      cases this
    · exact absurd h hji
    · exact h
  have early : ∀ j oj d, j < i → ops[j]? = some oj → oj.dst = some d → (d ∈ oi'.looksAt ops) → listed.getD j false = true := by
    intro j oj d hj hoj hd hlook
    obtain ⟨_, _, h2⟩ := tidy_spec hB hin (by omega) hoi hoj hd (.inl hlook)
    obtain ⟨oi2, hoi2, e, he, hb, hon⟩ := Region.waitsFor_spec (h2 hj)
    have : oi2 = oi' := Option.some.inj (hoi2.symm.trans hoi)
    subst this
    have := hall e he hb
    rwa [hon] at this
  have looks : ∀ t ∈ oi'.looksAt ops, (lay ops vs a0 i).tmps[t]? = a.tmps[t]? := by
    intro t ht
    rw [lay_get, mid.slots t]
    unfold slotOf
    rw [lastW_eq (ops := ops) (t := t) (p := fun _ => true) (q := fun j => listed.getD j false) (m := i) (n := n) ?_]
    intro j
    constructor
    · rintro ⟨h1, _, h3⟩
      obtain ⟨oj, hoj, hd⟩ := Option.bind_eq_some_iff.1 h3
      exact ⟨by omega, early j oj t h1 hoj hd ht, h3⟩
    · rintro ⟨h1, h2, h3⟩
      obtain ⟨oj, hoj, hd⟩ := Option.bind_eq_some_iff.1 h3
      exact ⟨later j oj t h1 hoj hd h2 (.inl ht), rfl, h3⟩
  have hdeps : depsHold ops ps vs oi' W i := depsHold_of i fun j d hj hd hl => by
    obtain ⟨oj, hoj, hd'⟩ := Option.bind_eq_some_iff.1 hd
    exact mid.held j (by omega) (early j oj d hj hoj hd' hl)
  have hs := hop vs i hin
  unfold stepFor at hs
  simp only [hoi] at hs
  have hs := hs W mid.ext hdeps
  have hw : Region.wanted oi' (yielded ops (lay ops vs a0 i).tmps) = true := by unfold Region.wanted; rw [hg]
  rw [if_pos hw] at hs
  exact hs.of_eval (exec_congr (fun cs b => Region.noSelect_spec hsel i oi' cs b hoi) (fun t ht => (looks t ht).symm))

/-- What holds behind an operation of the head. -/
theorem mid_put {n : Nat} {ps : Nat → Value ⊕ (Value → World → Prop)} {a0 : Act} {w0 : World} {listed : Array Bool} {vs : Nat → Value} {a : Act} {W : World}
    (hB : tidyB ops n = true) (hst : ∀ j R, ps j = .inr R → ∀ v W W', R v W → Below W.heap.size W W' → R v W')
    (inv : HeadInv .any ops n listed) (mid : Mid ops n ps a0 w0 listed vs a W)
    {i : Nat} {oi : Oper} (hr : i ∈ Region.ready .any ops listed) (hin : i < n) (hoi : ops[i]? = some oi) {v : Value} {W' : World} (hb : Below W.heap.size W W') (hv : holdsOf (ps i) v W') :
    Mid ops n ps a0 w0 (listed.setIfInBounds i true) (fun j => if j = i then v else vs j) (a.put oi.dst v) W' := by
  obtain ⟨hun, oi', hoi', hall⟩ := mem_ready.1 hr
  obtain rfl : oi' = oi := Option.some.inj (hoi'.symm.trans hoi)
  have hunf : listed.getD i false = false := getD_both hun
  have hisz : i < listed.size := by rw [inv.size]; exact (Array.getElem?_eq_some_iff.1 hoi).1
  have later : ∀ j oj d, j < n → ops[j]? = some oj → oj.dst = some d → listed.getD j false = true → (d ∈ oi'.looksAt ops ∨ oi'.dst = some d) → j < i := by
    intro j oj d hj hoj hd hl hlook
    have hji : i ≠ j := fun e => by subst e; rw [hunf] at hl; cases hl
    obtain ⟨_, h1, _⟩ := tidy_spec hB hin hj hoi hoj hd (hlook.imp id fun h => ⟨h, hji⟩)
    rcases Nat.lt_trichotomy i j with h | h | h
    · obtain ⟨oj', hoj', e, he, hb, hon⟩ := Region.waitsFor_spec (h1 h)
      have := inv.closed j oj' hoj' hl e he hb
      rw [hon, hunf] at this
      cases this
    · exact absurd h hji
    · exact h
  refine ⟨ext_trans mid.ext hb, by rw [put_size, mid.size], by rw [put_defers, mid.defers], fun t => ?_, fun j hj hl => ?_⟩
  · rw [put_get, mid.size]
    unfold slotOf
    by_cases hd : oi'.dst = some t
    · simp only [hd, if_true]
      have : lastW ops (fun j => (listed.setIfInBounds i true).getD j false) t n = some i := by
        cases hc : lastW ops (fun j => (listed.setIfInBounds i true).getD j false) t n with
        | none => exact absurd ⟨by simp [hisz], by simp [hoi, hd]⟩ (lastW_none hc i hin)
        | some j =>
          obtain ⟨c1, c2, c3, c4⟩ := lastW_some hc
          obtain ⟨oj, hoj, hdj⟩ := Option.bind_eq_some_iff.1 c3
          by_cases e : j = i
          · rw [e]
          · have hlj : listed.getD j false = true := by rwa [getD_set_ne false (Ne.symm e)] at c2
            have := later j oj t c1 hoj hdj hlj (.inr hd)
            exact absurd ⟨by simp [hisz], by simp [hoi, hd]⟩ (c4 i this hin)
      rw [this]
      simp
    · simp only [hd, if_false]
      rw [mid.slots t]
      unfold slotOf
      have : lastW ops (fun j => (listed.setIfInBounds i true).getD j false) t n = lastW ops (fun j => listed.getD j false) t n := by
        refine lastW_eq fun j => ?_
        by_cases e : j = i
        · subst e; simp [hoi, hd]
        · rw [getD_set_ne false (Ne.symm e)]
      rw [this]
      cases hc : lastW ops (fun j => listed.getD j false) t n with
      | none => rfl
      | some j =>
        obtain ⟨c1, c2, c3, c4⟩ := lastW_some hc
        have e : j ≠ i := fun e => by subst e; simp [hoi, hd] at c3
        simp [e]
  · by_cases e : j = i
    · subst e; simpa using hv
    · simp only [e, if_false]
      have hl' : listed.getD j false = true := by rwa [getD_set_ne false (Ne.symm e)] at hl
      have h1 := mid.held j hj hl'
      cases hp : ps j with
      | inl u => simpa [hp, holdsOf] using h1
      | inr R => simp only [hp, holdsOf] at h1 ⊢; exact hst j R hp _ _ _ h1 hb

theorem free_spec {n : Nat} {F : List Nat} (h : freeB ops n F = true) {i : Nat} (hi : F.contains i = true) :
    i < n ∧ ∃ oi, ops[i]? = some oi ∧ plainB oi = true ∧ ∀ j oj, ops[j]? = some oj → j ≠ i → ¬ (j < n ∧ F.contains j = false) → (∀ e ∈ oj.after, Region.binds .any e = true → e.on ≠ i) → oi.apart ops oj = true := by
  have h1 := List.all_eq_true.1 h i (by simpa using hi)
  simp only [Bool.and_eq_true, decide_eq_true_eq] at h1
  obtain ⟨h1, h2⟩ := h1
  refine ⟨h1, ?_⟩
  cases ho : ops[i]? with
  | none => simp [ho] at h2
  | some oi =>
    simp only [ho, Bool.and_eq_true] at h2
    refine ⟨oi, rfl, h2.1, fun j oj hj hji hnf hno => ?_⟩
    have h3 := List.all_eq_true.1 h2.2 j (List.mem_range.2 (Array.getElem?_eq_some_iff.1 hj).1)
    simp only [hj, Bool.or_eq_true, Bool.and_eq_true, beq_iff_eq, decide_eq_true_eq, Bool.not_eq_true'] at h3
    rcases h3 with (h3 | h3) | h3 | h3
    · exact absurd h3 hji
    · exact absurd h3 hnf
    · obtain ⟨e, he, hb⟩ := Array.any_eq_true'.1 h3
      simp only [Bool.and_eq_true, beq_iff_eq] at hb
      exact absurd hb.2 (hno e he hb.1)
    · exact h3

theorem wpAny_of_midF {n : Nat} {F : List Nat} {ps : Nat → Value ⊕ (Value → World → Prop)} {a0 : Act} {w0 : World} {Q : Exit → Act → World → Prop} {l : List Oper}
    (hl : ∀ j : Nat, l[j]? = ops[n + j]?) (hll : l.length = ops.size - n)
    (hB : partsFB ops n F = true) (hst : ∀ j R, ps j = .inr R → ∀ v W W', R v W → Below W.heap.size W W' → R v W')
    (hQ : ∀ c a d v w, Q (.panic c) (Act.put a d v) w → Q (.panic c) a w)
    (hop : ∀ vs i, i < n → stepFor P ops ps a0 w0 vs i)
    (hend : ∀ vs W, Below w0.heap.size w0 W → allHold ps vs W n → wpList P ops Q l (lay ops vs a0 n) W) :
    ∀ (f : Nat) (listed : Array Bool) (vs : Nat → Value) (a : Act) (W : World), HeadInv .any ops n listed → Mid ops n ps a0 w0 listed vs a W → cnt listed n = f →
      wpAny P .any ops Q (f + (ops.size - n)) listed a W := by
  simp only [partsFB, Bool.and_eq_true, decide_eq_true_eq, Bool.not_eq_true'] at hB
  obtain ⟨⟨⟨⟨⟨⟨⟨hsel, htidy⟩, hback⟩, hn⟩, hsink, hchain⟩, hfree⟩, hseq⟩, hFn⟩ := hB
  intro f
  induction f with
  | zero =>
    intro listed vs a W inv mid hc
    have hall := cnt_zero listed n hc
    have hlisted : listed = (Array.range ops.size).map fun j => decide (j < n) := by
      apply Array.ext
      · simp [inv.size]
      · intro j h1 h2
        simp only [Array.getElem_map, Array.getElem_range]
        by_cases hj : j < n
        · have := hall j hj
          simp only [h1, Array.getD_eq_getD_getElem?, Array.getElem?_eq_getElem, Option.getD_some] at this
          simp [hj, this]
        · have := getD_both (inv.tail j (by omega) (by simpa using h2))
          simp only [h1, Array.getD_eq_getD_getElem?, Array.getElem?_eq_getElem, Option.getD_some] at this
          simp [hj, this]
    have ha : a = lay ops vs a0 n := act_ext (fun t => by
      rw [lay_get, mid.slots t]
      unfold slotOf
      rw [lastW_eq (ops := ops) (t := t) (p := fun j => listed.getD j false) (q := fun _ => true) (m := n) (n := n) ?_]
      intro j
      constructor
      · rintro ⟨h1, _, h3⟩; exact ⟨h1, rfl, h3⟩
      · rintro ⟨h1, _, h3⟩; exact ⟨h1, hall j h1, h3⟩) (by rw [mid.defers, lay_defers])
    have h := hend vs W mid.ext (allHold_of n fun j hj => mid.held j hj (hall j hj))
    rw [Nat.zero_add, ← hll]
    rw [← hlisted, ← hll] at hseq
    rw [ha]
    exact wpAny_of_seq l n listed _ W hl hseq h
  | succ f ih =>
    intro listed vs a W inv mid hc
    obtain ⟨i0, hi0, hu0, hlow⟩ := least_unlisted listed n (by omega)
    rw [show f + 1 + (ops.size - n) = (f + (ops.size - n)) + 1 by omega]
    have hr0 : i0 ∈ Region.ready .any ops listed := by
      have h1 := List.all_eq_true.1 hback i0 (List.mem_range.2 hi0)
      cases ho : ops[i0]? with
      | none => simp [ho] at h1
      | some o =>
        simp only [ho] at h1
        refine mem_ready.2 ⟨getD_in (by rw [inv.size]; omega) hu0, o, ho, fun e he hb => ?_⟩
        have h2 := Array.all_eq_true'.1 h1 e he
        simp only [hb, Bool.not_true, Bool.false_or, decide_eq_true_eq] at h2
        exact hlow e.on h2
    by_cases hex : ∃ i1, i1 < n ∧ F.contains i1 = false ∧ listed.getD i1 false = false
    · obtain ⟨i1, hi1, hf1, hu1⟩ := hex
      refine ⟨fun h => (by rw [h] at hr0; cases hr0), fun i hi => ?_⟩
      have hin : i < n := by
        rcases Nat.lt_or_ge i n with h | h
        · exact h
        · exact absurd hi (tail_waitsF hsink hchain hn hFn inv _ i1 rfl hi1 hf1 (getD_in (by rw [inv.size]; omega) hu1) i h)
      have hun := (mem_ready.1 hi).1
      refine mid_step htidy hsel hst hop inv mid hi hin fun vs' a' W' inv' mid' => ih _ vs' a' W' inv' mid' ?_
      have := cnt_set listed i (by rw [inv.size]; omega) (getD_both hun) n hin
      omega
    · have hF0 : F.contains i0 = true := by
        cases h : F.contains i0 with
        | true => rfl
        | false => exact absurd ⟨i0, hi0, h, hu0⟩ hex
      obtain ⟨_, oi, hoi, hpl, hap⟩ := free_spec hfree hF0
      have hg := mid_gives htidy hsel hop inv mid hr0 hi0 hoi (by simp only [plainB, Bool.and_eq_true, Option.isNone_iff_eq_none] at hpl; exact hpl.1)
      obtain ⟨v, hy, hv⟩ := plain_yields (ops := ops) hpl hg
      have hun := (mem_ready.1 hr0).1
      refine wpAny_first (v := v) hoi (fun j o cs b ho => Region.noSelect_spec hsel j o cs b ho) (fun c a w h => hQ c a _ _ w h) _ listed a W (fun j oj hj hji hjun hno => hap j oj hj hji (fun ⟨h1, h2⟩ => hex ⟨j, h1, h2, getD_both hjun⟩) hno) hr0 hy ?_
      refine ih _ (fun j => if j = i0 then v else vs j) _ W (inv.set hr0 hi0) (mid_put htidy hst inv mid hr0 hi0 hoi (Below.refl _ _) hv) ?_
      have := cnt_set listed i0 (by rw [inv.size]; omega) (getD_both hun) n hi0
      omega

theorem wp_region_partsF {id : Nat} {ops : List Oper} {Q : Exit → Act → World → Prop} {a : Act} {w : World} (n : Nat) (F : List Nat) (ps : Nat → Value ⊕ (Value → World → Prop)) (hm : P.follows .mixedOrders = true) (hB : partsFB ops.toArray n F = true)
    (hst : ∀ j R, ps j = .inr R → ∀ v W W', R v W → Below W.heap.size W W' → R v W')
    (hQ : ∀ c a d v w, Q (.panic c) (Act.put a d v) w → Q (.panic c) a w)
    (hop : ∀ vs i, i < n → stepFor P ops.toArray ps a w vs i)
    (hend : ∀ vs W, Below w.heap.size w W → allHold ps vs W n → wpList P ops.toArray Q (ops.drop n) (lay ops.toArray vs a n) W) : (Code.region id ops.toArray true).wp P Q a w := by
  have hn : n < ops.toArray.size := by
    simp only [partsFB, Bool.and_eq_true, decide_eq_true_eq] at hB
    exact hB.1.1.1.1.2
  have he : Below w.heap.size w { w with drawn := w.drawn + 1 } := (Below.refl _ _).drew
  have hc : ∀ m, cnt (Array.replicate ops.toArray.size false) m = m := fun m => by
    induction m with
    | zero => rfl
    | succ m ih => rw [cnt, ih, getD_replicate_false]; rfl
  refine wp_region_any hm ?_
  have := wpAny_of_midF (P := P) (ops := ops.toArray) (l := ops.drop n) (fun j => by simp [List.getElem?_drop]) (by simp) hB hst hQ hop hend n (Array.replicate ops.toArray.size false) (fun _ => undef) a { w with drawn := w.drawn + 1 }
    ⟨by simp, fun j oj _ hl => (by rw [getD_replicate_false] at hl; cases hl), fun t _ ht => getD_in (by simpa using ht) (getD_replicate_false _ _)⟩
    ⟨he, rfl, rfl, fun t => ?_, fun j _ hl => (by rw [getD_replicate_false] at hl; cases hl)⟩ (hc n)
  · rwa [show n + (ops.toArray.size - n) = ops.toArray.size by omega] at this
  · unfold slotOf
    rw [show lastW ops.toArray (fun j => (Array.replicate ops.toArray.size false).getD j false) t n = none from ?_]
    cases h : lastW ops.toArray (fun j => (Array.replicate ops.toArray.size false).getD j false) t n with
    | none => rfl
    | some j => have := (lastW_some h).2.1; rw [getD_replicate_false] at this; cases this

/-- What stands behind, where nothing panics. -/
def noPanic (Q : Exit → Act → World → Prop) : Exit → Act → World → Prop
  | .panic _ => fun _ _ => False
  | e => Q e
theorem noPanic.of {Q : Exit → Act → World → Prop} {e : Exit} {a : Act} {w : World} (h : noPanic Q e a w) : Q e a w := by
  cases e <;> first | exact h | exact h.elim
theorem noPanic_normal {Q : Exit → Act → World → Prop} {a : Act} {w : World} (h : Q .normal a w) : noPanic Q .normal a w := h

/-- **A region that draws its order**, walked in the order of the text; F lists the operations that may also come after the stores at its end. -/
theorem wp_region_seqF {id : Nat} {l : List Oper} {Q : Exit → Act → World → Prop} {a : Act} {w : World} (F : List Nat) (ps : List Piece) (hm : P.follows .mixedOrders = true) (hB : partsFB l.toArray ps.length F = true)
    (h : wpParts P l.toArray w (noPanic Q) l ps [] a) : (Code.region id l.toArray true).wp P Q a w := by
  refine Code.wp_mono (Q := noPanic Q) (fun e a w h => h.of) ?_
  have hn : ps.length ≤ l.length := by
    simp only [partsFB, Bool.and_eq_true, decide_eq_true_eq] at hB
    have := hB.1.1.1.1.2
    simp at this
    omega
  have hsel : Region.noSelect l.toArray = true := by
    simp only [partsFB, Bool.and_eq_true] at hB
    exact hB.1.1.1.1.1.1.1
  have spec := fun vs => parts_spec (P := P) (ops := l.toArray) (w := w) (Q := noPanic Q) (a := a) (qs := fun i => (ps[i]?).getD (.inl undef)) vs l ps 0 (fun j => by simp) (fun j p hj => by simp [hj]) hn h
  refine wp_region_partsF ps.length F (fun i => (ps[i]?).getD (.inl undef)) hm hB ?_ (fun _ _ _ _ _ h => h) ?_ ?_
  · intro j R hj
    by_cases hlt : j < ps.length
    · exact (spec (fun _ => undef)).2.1 j R (by omega) (by omega) hj
    · have : ps[j]? = none := by simp; omega
      simp [this] at hj
  · intro vs i hi
    unfold stepFor
    obtain ⟨o, ho, hs⟩ := (spec vs).1 i (by omega) (by omega)
    rw [ho]
    intro W hW hd
    have hs := hs W hW (near_of hd)
    have looks : ∀ t ∈ o.looksAt l.toArray, (lay l.toArray (fixed (fun i => (ps[i]?).getD (.inl undef)) vs) a i).tmps[t]? = (lay l.toArray vs a i).tmps[t]? := by
      intro t ht
      rw [lay_get, lay_get]
      unfold slotOf
      cases hc : lastW l.toArray (fun _ => true) t i with
      | none => rfl
      | some j =>
        obtain ⟨c1, _, c3, _⟩ := lastW_some hc
        simp only
        rw [fixed_eq (depsHold_get hd j t c1 c3 ht)]
    rw [wanted_congr looks] at hs
    simp only
    split
    · rename_i hw; rw [if_pos hw] at hs
      refine hs.of_eval (exec_congr (fun cs b => Region.noSelect_spec hsel i o cs b ho) (fun t ht => (looks t ht).symm))
    · rename_i hw; rw [if_neg hw] at hs; exact hs
  · intro vs W hW hall
    have := (spec vs).2.2 W hW (every_of (by simpa using hall))
    have e : lay l.toArray (fixed (fun i => (ps[i]?).getD (.inl undef)) vs) a ps.length = lay l.toArray vs a ps.length := act_ext (fun t => by
      rw [lay_get, lay_get]
      unfold slotOf
      cases hc : lastW l.toArray (fun _ => true) t ps.length with
      | none => rfl
      | some j =>
        obtain ⟨c1, _, _, _⟩ := lastW_some hc
        simp only
        rw [fixed_eq (allHold_get hall j c1)]) (by rw [lay_defers, lay_defers])
    rw [Nat.zero_add, e] at this
    exact this

end
end Go.Dav

namespace Go.Proofs.YtmcmknndhppljaaDoor
set_option linter.unusedVariables false
set_option linter.unusedSimpArgs false
open Go.RowKit Go.Dav
attribute [local go_sem] Gives ite_val ite_val_true

/-- A row: a key, a value (of which only its kind and number matter here). -/
structure TrydRow where
  a1 : Option Addr
  l1 : Nat
  c1 : Nat
  a2 : Option Addr
  l2 : Nat
  c2 : Nat
  b : Bool
  x : Int
def TrydRow.cells (r : TrydRow) : List Value := [.slice r.a1 r.l1 r.c1, .slice r.a2 r.l2 r.c2, .bool r.b, .int .i64 r.x]
def TrydRow.red (r : TrydRow) : Red := rowRed r.b r.x
/-- From offset o of block b on the rows lie one behind the other. -/
def TrydRowsAt (W : World) (b o : Nat) (l : List TrydRow) : Prop :=
  ∀ k r, l[k]? = some r → ∀ j v, r.cells[j]? = some v → W.cell? ⟨b, o + k * 4 + j, none⟩ = some v

/-- A slice's rows: those of a slice that is not empty lie in memory that was there before B. -/
def TrydRowsIn (W : World) (B : Nat) (a : Option Addr) (l : List TrydRow) : Prop :=
  ∀ k r, l[k]? = some r → ∃ b o, a = some ⟨b, o, none⟩ ∧ b < B ∧ ∀ j v, r.cells[j]? = some v → W.cell? ⟨b, o + k * 4 + j, none⟩ = some v

theorem Tryd_rowsIn_below {W W' : World} {B B' : Nat} {a : Option Addr} {l : List TrydRow} (h : TrydRowsIn W B a l) (hb : Below B' W W') (hle : B ≤ B') : TrydRowsIn W' B a l := fun k r hk => by
  obtain ⟨b, o, h1, h2, h3⟩ := h k r hk
  exact ⟨b, o, h1, h2, fun j v hj => by rw [hb.cell (p := ⟨b, o + k * 4 + j, none⟩) (show b < B' by omega)]; exact h3 j v hj⟩

theorem Tryd_rowsIn_later {W : World} {B B' : Nat} {a : Option Addr} {l : List TrydRow} (h : TrydRowsIn W B a l) (hle : B ≤ B') : TrydRowsIn W B' a l := fun k r hk => by
  obtain ⟨b, o, h1, h2, h3⟩ := h k r hk
  exact ⟨b, o, h1, by omega, h3⟩

theorem Tryd_rows_below {W W' : World} {B b o : Nat} {l : List TrydRow} (h : TrydRowsAt W b o l) (hb : Below B W W') (hlt : b < B) : TrydRowsAt W' b o l := fun i r hi j v hj => by
  rw [hb.cell (p := ⟨b, o + i * 4 + j, none⟩) hlt]; exact h i r hi j v hj

theorem Tryd_One' (a1 a2 : Option Addr) (l1 c1 l2 c2 : Nat) (b : Bool) (x : Int) (w : World) (hx : I64 x) :
    Calls Tryd.prog 44 #[.agg #[.slice a1 l1 c1, .slice a2 l2 c2, .bool b, .int .i64 x]] w fun e w' =>
      e = .returned (.agg #[.int .i64 (rowRed b x).c, .int .i64 (rowRed b x).n, .int .i64 (hi (rowRed b x).s), .int .u64 (lo (rowRed b x).s), .int .i64 (rowRed b x).l, .int .i64 (rowRed b x).m]) ∧ Below w.heap.size w w' := by
  cases b
  · exact Tryd_One_no _ _ x w rfl rfl
  · exact Tryd_One_yes _ _ x w hx

/-- A slice of two reductions, made above B. -/
def TrydTwo (B : Nat) (r t : Red) (v : Value) (W : World) : Prop := ∃ g, v = .slice (some ⟨g, 0, none⟩) 2 2 ∧ B ≤ g ∧ g < W.heap.size ∧ TrydRedsAt W g 0 [r, t]
theorem TrydTwo.later {B : Nat} {r t : Red} : ∀ v W W', TrydTwo B r t v W → Below W.heap.size W W' → TrydTwo B r t v W' :=
  fun _ _ _ ⟨g, h1, h2, h3, h4⟩ hb => ⟨g, h1, h2, Nat.lt_of_lt_of_le h3 hb.size, Tryd_reds_below h4 hb h3⟩
theorem Tryd_two_new {B : Nat} {r t : Red} {W : World} (h : B ≤ W.heap.size) :
    Below W.heap.size W (W.alloc (.cells #[.int .i64 r.c, .int .i64 r.n, .int .i64 (hi r.s), .int .u64 (lo r.s), .int .i64 r.l, .int .i64 r.m, .int .i64 t.c, .int .i64 t.n, .int .i64 (hi t.s), .int .u64 (lo t.s), .int .i64 t.l, .int .i64 t.m] 30)) ∧
    TrydTwo B r t (.slice (some ⟨W.heap.size, 0, none⟩) 2 2) (W.alloc (.cells #[.int .i64 r.c, .int .i64 r.n, .int .i64 (hi r.s), .int .u64 (lo r.s), .int .i64 r.l, .int .i64 r.m, .int .i64 t.c, .int .i64 t.n, .int .i64 (hi t.s), .int .u64 (lo t.s), .int .i64 t.l, .int .i64 t.m] 30)) :=
  ⟨(Below.refl _ _).alloc (Nat.le_refl _) _, _, rfl, h, by simp, Tryd_RedsAt_flat (Blk.new _ [_, _, _, _, _, _, _, _, _, _, _, _] _) rfl⟩

/-- What is joined after k rows. -/
def TrydSum (l : List TrydRow) (k : Nat) : Red := redAll ((l.take k).map TrydRow.red)

theorem TrydSum_good (l : List TrydRow) (k : Nat) (h : ∀ r ∈ l, I64 r.x) : (TrydSum l k).good :=
  redAll_good fun r hr => by
    obtain ⟨x, hx, rfl⟩ := List.mem_map.1 hr
    exact rowRed_good _ _ (h x (List.mem_of_mem_take hx))

theorem TrydSum_succ (l : List TrydRow) (k : Nat) (r : TrydRow) (h : l[k]? = some r) : TrydSum l (k + 1) = (TrydSum l k).both r.red := by
  unfold TrydSum redAll
  rw [List.take_add_one, h]
  simp

theorem rowRed_c (b : Bool) (x : Int) : (rowRed b x).c = 1 := by cases b <;> rfl

theorem TrydSum_c (l : List TrydRow) (k : Nat) (hk : k ≤ l.length) : (TrydSum l k).c = k := by
  induction k with
  | zero => rfl
  | succ k ih =>
    rw [TrydSum_succ l k _ (List.getElem?_eq_getElem (show k < l.length by omega))]
    simp only [Red.both, TrydRow.red, rowRed_c]
    rw [ih (by omega)]
    omega

theorem two_joined {r t : Red} (hr : r.good) (ht : t.good) (hc : r.c + t.c ≤ 1073741824) : joined [r, t] = (r.both t, 0) := by
  rw [joined_good (by intro x hx; rcases List.mem_cons.1 hx with h | h; (subst h; assumption); (have h := List.mem_singleton.1 h; subst h; assumption)) (by simp only [List.map_cons, List.map_nil, List.sum_cons, List.sum_nil]; omega)]
  unfold redAll
  simp only [List.foldl_cons, List.foldl_nil, Red.zero_both hr]

theorem Red.good_fits {r : Red} (h : r.good) (hc : r.c ≤ 1073741824) : r.fits := by
  obtain ⟨a1, a2, a3, a4, a5, a6, a7, a8⟩ := h
  unfold Red.fits I64; omega

def TrydmAllRel (w : World) (l : List TrydRow) (b o : Nat) (ix : Value) (wr : World) : Prop :=
  ∃ k : Nat, k ≤ l.length ∧ ix = .int .i64 k ∧ Blk wr w.heap.size [.int .i64 0, .int .i64 0, .int .i64 0, .int .u64 0, .int .i64 0, .int .i64 0] 30 ∧
    Blk wr (w.heap.size + 1) (TrydSum l k).cells 30 ∧ Below w.heap.size w wr

set_option maxRecDepth 8000 in
set_option maxHeartbeats 8000000 in
theorem Tryd_all (a : Option Addr) (cap : Nat) (l : List TrydRow) (n : Nat) (w : World) (hlen : l.length = n) (h60 : n ≤ 60) (hat : TrydRowsIn w w.heap.size a l) (hx : ∀ r ∈ l, I64 r.x) :
    Calls Tryd.prog 13 #[.slice a n cap] w fun e w' =>
      e = .returned (.tuple #[.agg #[.int .i64 (TrydSum l n).c, .int .i64 (TrydSum l n).n, .int .i64 (hi (TrydSum l n).s), .int .u64 (lo (TrydSum l n).s), .int .i64 (TrydSum l n).l, .int .i64 (TrydSum l n).m], .bool true]) ∧ Below w.heap.size w w' := by
  have z1 := hi_zero
  have z2 := lo_zero
  have hi2 : (n : Int) ≤ 60 := by omega
  have HLEN := Lib.hid hlen; clear hlen
  have HX := Lib.hid hx; clear hx
  have HAT := Lib.hid hat; clear hat
  have H60 := Lib.hid h60; clear h60
  go_enter Tryd.func13, Tryd.ntmps13
  go_wp2_with fail
  go_loopw [12] (fun ix wr => TrydmAllRel w l 0 0 ix wr) (fun ix _ => n - (intOf ix).toNat)
  case atStart =>
    refine ⟨0, Nat.zero_le _, rfl, ?_, ?_, ?_⟩
    · exact (Blk.new _ [_, _, _, _, _, _] _).alloc _
    · have e : (TrydSum l 0).cells = [.int .i64 0, .int .i64 0, .int .i64 0, .int .u64 0, .int .i64 0, .int .i64 0] := by
        unfold TrydSum redAll; simp [Red.zero, Red.cells, hi_zero, lo_zero]
      rw [e]
      exact Blk.new' _ [_, _, _, _, _, _] _ (by simp)
    · exact (by repeat (first | (with_reducible exact Below.refl _ _) | (with_reducible exact Below.refl _ _) | (with_reducible refine Below.setCell ?_ (by first | omega | (simp; done) | (simp; omega)) _) | (with_reducible refine Below.alloc ?_ (by first | omega | (simp; done) | (simp; omega)) _) | (with_reducible refine Below.drew ?_) | (with_reducible refine below_drewN ?_ _)))
  case round =>
    obtain ⟨k, hk, rfl, hbz, hbo, hbel⟩ := hrel
    have hbs := hbel.size
    have lz := hbz.lt
    have lo1 := hbo.lt
    have HG := Lib.hid (TrydSum_good l k HX.out)
    have HC := Lib.hid (TrydSum_c l k hk)
    by_cases hlt : k < l.length
    · obtain ⟨r, hrk⟩ : ∃ r, l[k]? = some r := ⟨_, List.getElem?_eq_getElem hlt⟩
      have hmem := List.mem_of_getElem? hrk
      have HS := Lib.hid (TrydSum_succ l k r hrk)
      have HRX := Lib.hid (HX.out r hmem)
      obtain ⟨b, o, rfl, hb, hrw⟩ := Tryd_rowsIn_below HAT.out hbel (Nat.le_refl _) k r hrk
      have q0 := hrw 0 _ rfl
      have q1 := hrw 1 _ rfl
      have q2 := hrw 2 _ rfl
      have q3 := hrw 3 _ rfl
      rw [Nat.add_zero] at q0
      clear hrw hmem
      have hkl : (k : Int) < (n : Int) := by have := HLEN.out; omega
      have HR := Lib.hid hrk; clear hrk
      have HLT := Lib.hid hlt; clear hlt
      have HK := Lib.hid hk; clear hk
      have hc2 : (TrydSum l k).c + r.red.c ≤ 1073741824 := by rw [HC.out, show r.red.c = 1 from rowRed_c r.b r.x]; have := HLEN.out; have := H60.out; have := HLT.out; omega
      have hrg : r.red.good := rowRed_good r.b r.x HRX.out
      have hr1 : r.red.c = 1 := rowRed_c r.b r.x
      have HJ := Lib.hid (two_joined HG.out hrg hc2)
      have HF := Lib.hid (show ∀ t ∈ [TrydSum l k, r.red], t.fits from fun t ht => by
        simp only [List.mem_cons, List.not_mem_nil, or_false] at ht
        rcases ht with rfl | rfl
        · exact Red.good_fits HG.out (by have := HC.out; have := HLEN.out; have := H60.out; have := HLT.out; omega)
        · exact Red.good_fits hrg (by omega))
      clear hc2 hrg hr1
      generalize hA : TrydSum l k = A at *
      have HA := Lib.hid hA; clear hA
      have pc := hbo.cells
      have pm := hbo.marks
      simp only [Red.cells] at pc
      go_wp2_with fail
      refine' wp_region_seqF [7] [.inl _, .inl _, .inl _, .inr (TrydTwo (wr.heap.size + 1) A r.red), .inl _, .inl _, .inl _, .inl _, .inr (NewBlk (wr.heap.size + 1) [.int .i64 0, .int .i64 0, .int .i64 0, .int .u64 0, .int .i64 0, .int .i64 0] 30)] (by kernel_rfl) (by kernel_rfl) ?main1
      case main1 =>
        refine wpParts_det (by rfl) (fun W hE hN => ?_) ?_
        · have hc := fun b o h => hE.cell (p := ⟨b, o, none⟩) h
          go_simp; refine ⟨Below.refl _ _, ?_⟩; rfl
        simp only [Act.put, List.setIfInBounds_toArray, List.set_cons_zero, List.set_cons_succ]
        refine wpParts_det (by rfl) (fun W hE hN => ?_) ?_
        · have hc := fun b o h => hE.cell (p := ⟨b, o, none⟩) h
          go_simp; refine ⟨Below.refl _ _, ?_⟩; rfl
        simp only [Act.put, List.setIfInBounds_toArray, List.set_cons_zero, List.set_cons_succ]
        refine wpParts_det (by rfl) (fun W hE hN => ?_) ?_
        · go_simp; refine ⟨Below.refl _ _, ?_⟩; refine (Tryd_One' _ _ _ _ _ _ _ _ _ HRX.out).mono ?_; rintro e w' ⟨rfl, hb⟩; refine ⟨?_, hb⟩; rfl
        simp only [Act.put, List.setIfInBounds_toArray, List.set_cons_zero, List.set_cons_succ]
        refine wpParts_any rfl (TrydTwo.later) (by rfl) (fun W hE hN => ?_) (fun u3 => ?_)
        · go_simp; exact Tryd_two_new (t := r.red) (by have := hE.size; simp at this; omega)
        simp only [Act.put, List.setIfInBounds_toArray, List.set_cons_zero, List.set_cons_succ]
        refine wpParts_det (by rfl) (fun W hE hN => ?_) ?_
        · simp [near, Oper.looksAt, Op.operands] at hN; obtain ⟨g, rfl, hg, hgl, hrg⟩ := hN (.tmp 20) (by simp [Call.operands]) rfl; go_simp; refine ⟨Below.refl _ _, ?_⟩; refine (Tryd_Join' g 0 2 2 [A, r.red] _ rfl (by omega) hgl hrg HF.out).mono ?_; rintro e w' ⟨rfl, hb⟩; refine ⟨?_, hb⟩; rw [HJ.out, show ((A.both r.red, (0 : Int)).1.cells.toArray) = #[.int .i64 (A.both r.red).c, .int .i64 (A.both r.red).n, .int .i64 (hi (A.both r.red).s), .int .u64 (lo (A.both r.red).s), .int .i64 (A.both r.red).l, .int .i64 (A.both r.red).m] from rfl]
        simp only [Act.put, List.setIfInBounds_toArray, List.set_cons_zero, List.set_cons_succ]
        refine wpParts_det (by rfl) (fun W hE hN => ?_) ?_
        · go_simp; refine ⟨Below.refl _ _, ?_⟩; rfl
        simp only [Act.put, List.setIfInBounds_toArray, List.set_cons_zero, List.set_cons_succ]
        refine wpParts_det (by rfl) (fun W hE hN => ?_) ?_
        · go_simp; refine ⟨Below.refl _ _, ?_⟩; rfl
        simp only [Act.put, List.setIfInBounds_toArray, List.set_cons_zero, List.set_cons_succ]
        refine wpParts_det (by rfl) (fun W hE hN => ?_) ?_
        · go_simp; refine ⟨Below.refl _ _, ?_⟩; rfl
        simp only [Act.put, List.setIfInBounds_toArray, List.set_cons_zero, List.set_cons_succ]
        refine wpParts_any rfl (NewBlk.later) (by rfl) (fun W hE hN => ?_) (fun u8 => ?_)
        · go_simp; exact newBlk_alloc (cs := [.int .i64 0, .int .i64 0, .int .i64 0, .int .u64 0, .int .i64 0, .int .i64 0]) (by have := hE.size; simp at this; omega)
        simp only [Act.put, List.setIfInBounds_toArray, List.set_cons_zero, List.set_cons_succ]
        refine wpParts_end fun W2 hE2 hG2 => ?_
        have hcW2 := fun b o h => hE2.cell (p := ⟨b, o, none⟩) h
        have hfW2 := fun b o h => hE2.frozen (p := ⟨b, o, none⟩) h
        obtain ⟨p, rfl, hp, hblk⟩ := hG2.1
        have s2 := hE2.size
        simp at s2
        have hbz2 := (hbz.alloc _).ext hE2
        have hbo2 := (hbo.alloc _).ext hE2
        have bel2 : Below w.heap.size w W2 := (by repeat (first | (with_reducible exact Below.refl _ _) | (with_reducible exact Below.refl _ _) | (with_reducible refine Below.setCell ?_ (by first | omega | (simp; done) | (simp; omega)) _) | (with_reducible refine Below.alloc ?_ (by first | omega | (simp; done) | (simp; omega)) _) | (with_reducible refine Below.drew ?_) | (with_reducible refine below_drewN ?_ _) | (with_reducible refine Below.trans ?_ (hE2.mono (by first | omega | (simp; done) | (simp; omega)))) | (with_reducible refine Below.trans ?_ (hbel.mono (by first | omega | (simp; done) | (simp; omega))))))
        have cc := hblk.cells
        have cf := hblk.marks
        have gg := hbo2.marks
        have lp := hblk.lt
        have nwp : w.heap.size ≠ p := by omega
        have nwp1 : w.heap.size + 1 ≠ p := by omega
        have lt_W2_0_0 : w.heap.size < W2.heap.size := by omega
        have lt_W2_0_1 : w.heap.size < W2.heap.size + 1 := by omega
        have lt_W2_1_0 : w.heap.size + 1 < W2.heap.size := by omega
        have lt_W2_1_1 : w.heap.size + 1 < W2.heap.size + 1 := by omega
        have lt_W2_2_0 : p < W2.heap.size := by omega
        have lt_W2_2_1 : p < W2.heap.size + 1 := by omega
        go_wp2_with fail
        refine noPanic_normal ?_
        go_wp2_with fail
        go_roundw
        case rel =>
          refine ⟨k + 1, HLT.out, by go_num, ?_, ?_, ?_⟩
          · exact ((((((((((((hbz2.other (by omega) _ _).other (by omega) _ _).other (by omega) _ _).other (by omega) _ _).other (by omega) _ _).other (by omega) _ _).other (by omega) _ _).other (by omega) _ _).other (by omega) _ _).other (by omega) _ _).other (by omega) _ _).other (by omega) _ _)
          · rw [HS.out]
            exact (((((((((((hbo2.other (by omega) _ _).other (by omega) _ _).other (by omega) _ _).other (by omega) _ _).other (by omega) _ _).other (by omega) _ _).set 0 _).set 1 _).set 2 _).set 3 _).set 4 _).set 5 _
          · exact (by repeat (first | (with_reducible exact Below.refl _ _) | (with_reducible exact Below.refl _ _) | (with_reducible refine Below.setCell ?_ (by first | omega | (simp; done) | (simp; omega)) _) | (with_reducible refine Below.alloc ?_ (by first | omega | (simp; done) | (simp; omega)) _) | (with_reducible refine Below.drew ?_) | (with_reducible refine below_drewN ?_ _) | (with_reducible refine Below.trans ?_ (bel2.mono (by first | omega | (simp; done) | (simp; omega))))))
        case measure => have := HLT.out; have := HLEN.out; simp [intOf]; omega
    · have hkl : k = l.length := by omega
      have hkn : k = n := hkl.trans HLEN.out
      clear hkl
      subst hkn
      have hkl : ¬ ((k : Int) < (k : Int)) := by omega
      clear hlt hk
      have pc := hbo.cells
      have oc := hbz.cells
      have om := hbz.marks
      simp only [Red.cells] at pc
      go_wp2_with fail
      refine bodyPost_ret (v := .tuple #[.agg #[.int .i64 (TrydSum l k).c, .int .i64 (TrydSum l k).n, .int .i64 (hi (TrydSum l k).s), .int .u64 (lo (TrydSum l k).s), .int .i64 (TrydSum l k).l, .int .i64 (TrydSum l k).m], .bool true]) (by simp [results, Tryd.results13, go_sem, *]) rfl ⟨rfl, ?_⟩
      exact (by repeat (first | (with_reducible exact Below.refl _ _) | (with_reducible exact Below.refl _ _) | (with_reducible refine Below.setCell ?_ (by first | omega | (simp; done) | (simp; omega)) _) | (with_reducible refine Below.alloc ?_ (by first | omega | (simp; done) | (simp; omega)) _) | (with_reducible refine Below.drew ?_) | (with_reducible refine below_drewN ?_ _) | (with_reducible refine Below.trans ?_ (hbel.mono (by first | omega | (simp; done) | (simp; omega))))))

end Go.Proofs.YtmcmknndhppljaaDoor

namespace Go.Dav
set_option linter.unusedVariables false
set_option linter.unusedSimpArgs false
open Go Go.RowKit

/-- Fits an int64. -/
def I64' (n : Int) : Prop := -9223372036854775808 ≤ n ∧ n ≤ 9223372036854775807

structure FileD where
  firm : List UInt8
  loose : List (List UInt8)
  fuse : Int
  fault : Int
  off : Bool

/-- How many bytes the first k pieces have. -/
def sumTo (L : List (List UInt8)) (k : Nat) : Nat := ((L.take k).map List.length).sum
theorem sumTo_zero (L : List (List UInt8)) : sumTo L 0 = 0 := by simp [sumTo]
theorem sumTo_succ {L : List (List UInt8)} {k : Nat} {p : List UInt8} (h : L[k]? = some p) : sumTo L (k + 1) = sumTo L k + p.length := by
  unfold sumTo
  rw [List.take_add_one, h]
  simp
def FileD.many (F : FileD) : Nat := F.firm.length + (F.loose.map List.length).sum
theorem sumTo_all (L : List (List UInt8)) : sumTo L L.length = (L.map List.length).sum := by simp [sumTo]
theorem sumTo_mono (L : List (List UInt8)) (k : Nat) : sumTo L k ≤ (L.map List.length).sum := by
  have h : (L.map List.length).sum = sumTo L k + ((L.drop k).map List.length).sum := by
    unfold sumTo; rw [← List.sum_append, ← List.map_append, List.take_append_drop]
  omega
def FileD.all (F : FileD) : List UInt8 := F.firm ++ F.loose.flatten
theorem FileD.all_length (F : FileD) : F.all.length = F.many := by simp [FileD.all, FileD.many, List.length_flatten]
/-- No piece is empty. -/
def FileD.full (F : FileD) : Bool := F.loose.all fun p => !p.isEmpty
def FileD.right (F : FileD) : Bool := F.full && decide (-1 ≤ F.fuse) && decide (-1 ≤ F.fault) && (!F.off || decide (F.fuse = -1)) && decide (F.many ≤ 524288)
/-- What 'length' answers. -/
def FileD.len (F : FileD) : Int := if F.full = true ∧ F.many ≤ 524288 then (F.many : Int) else -1
/-- What 'Check' answers. -/
def FileD.err (F : FileD) : Int := if F.right = true then 0 else 200

theorem FileD.right_spec {F : FileD} : F.right = true ↔ F.full = true ∧ -1 ≤ F.fuse ∧ -1 ≤ F.fault ∧ (F.off = true → F.fuse = -1) ∧ F.many ≤ 524288 := by
  unfold FileD.right
  cases F.off <;> simp [and_assoc]

/-- The bytes of a slice: where they lie. -/
structure BytesAt (W : World) (a : Option Addr) (len cap : Nat) (l : List UInt8) : Prop where
  hlen : l.length = len
  hcap : len ≤ cap
  hmax : cap ≤ maxLen
  hfew : len ≤ 140737488355328
  hat : ∀ k x, l[k]? = some x → ∃ b o, a = some ⟨b, o, none⟩ ∧ b < W.heap.size ∧ W.cell? ⟨b, o + k, none⟩ = some (.int .u8 (x.toNat : Int))
  hnil : a = none → cap = 0

structure LooseAt (W : World) (a : Option Addr) (len cap : Nat) (L : List (List UInt8)) : Prop where
  hlen : L.length = len
  hcap : len ≤ cap
  hmax : cap ≤ maxLen
  hfew : len ≤ 140737488355328
  hat : ∀ k p, L[k]? = some p → ∃ b o pa pl pc, a = some ⟨b, o, none⟩ ∧ b < W.heap.size ∧ W.cell? ⟨b, o + k, none⟩ = some (.slice pa pl pc) ∧ BytesAt W pa pl pc p
  hnil : a = none → cap = 0

structure FileAt (W : World) (fa : Option Addr) (fl fc : Nat) (la : Option Addr) (ll lc : Nat) (F : FileD) : Prop where
  firm : BytesAt W fa fl fc F.firm
  loose : LooseAt W la ll lc F.loose
  fuse : I64' F.fuse
  fault : I64' F.fault

theorem BytesAt.ext {W W' : World} {a : Option Addr} {len cap : Nat} {l : List UInt8} (h : BytesAt W a len cap l) (hb : Below W.heap.size W W') : BytesAt W' a len cap l :=
  ⟨h.hlen, h.hcap, h.hmax, h.hfew, fun k x hk => by
    obtain ⟨b, o, h1, h2, h3⟩ := h.hat k x hk
    exact ⟨b, o, h1, Nat.lt_of_lt_of_le h2 hb.size, by rw [hb.cell (p := ⟨b, o + k, none⟩) h2]; exact h3⟩, h.hnil⟩
theorem LooseAt.ext {W W' : World} {a : Option Addr} {len cap : Nat} {L : List (List UInt8)} (h : LooseAt W a len cap L) (hb : Below W.heap.size W W') : LooseAt W' a len cap L :=
  ⟨h.hlen, h.hcap, h.hmax, h.hfew, fun k x hk => by
    obtain ⟨b, o, pa, pl, pc, h1, h2, h3, h4⟩ := h.hat k x hk
    exact ⟨b, o, pa, pl, pc, h1, Nat.lt_of_lt_of_le h2 hb.size, by rw [hb.cell (p := ⟨b, o + k, none⟩) h2]; exact h3, h4.ext hb⟩, h.hnil⟩
theorem FileAt.ext {W W' : World} {fa la : Option Addr} {fl fc ll lc : Nat} {F : FileD} (h : FileAt W fa fl fc la ll lc F) (hb : Below W.heap.size W W') : FileAt W' fa fl fc la ll lc F :=
  ⟨h.firm.ext hb, h.loose.ext hb, h.fuse, h.fault⟩

theorem full_take {L : List (List UInt8)} {k : Nat} {p : List UInt8} (h : L[k]? = some p) : ((L.take (k + 1)).all fun p => !p.isEmpty) = ((L.take k).all (fun p => !p.isEmpty) && !p.isEmpty) := by
  rw [List.take_add_one, h, List.all_append]; simp

theorem FileD.len_neg {F : FileD} : F.len < 0 ↔ ¬ (F.full = true ∧ F.many ≤ 524288) := by
  unfold FileD.len
  split
  · rename_i h; simp [h]
  · rename_i h; simp [h]
theorem FileD.right_len {F : FileD} : F.right = true ↔ -1 ≤ F.fuse ∧ -1 ≤ F.fault ∧ (F.off = true → F.fuse = -1) ∧ 0 ≤ F.len := by
  rw [FileD.right_spec]
  have := F.len_neg
  constructor
  · rintro ⟨h1, h2, h3, h4, h5⟩
    exact ⟨h2, h3, h4, by simp [h1, h5] at this; exact this⟩
  · rintro ⟨h2, h3, h4, h5⟩
    have h6 : F.full = true ∧ F.many ≤ 524288 := by
      apply Classical.byContradiction
      intro h
      have := this.2 h
      omega
    exact ⟨h6.1, h2, h3, h4, h6.2⟩

/-- Two files are one, part by part. -/
def FileD.one (F G : FileD) : Bool := decide (F.fuse = G.fuse) && (decide (F.fault = G.fault) && (decide (F.off = G.off) && (decide (F.firm = G.firm) && decide (F.loose = G.loose))))
theorem FileD.one_spec {F G : FileD} : F.one G = true ↔ F = G := by
  cases F; cases G
  simp [FileD.one]
  constructor
  · rintro ⟨h1, h2, h3, h4, h5⟩; exact ⟨h4, h5, h1, h2, h3⟩
  · rintro ⟨h1, h2, h3, h4, h5⟩; exact ⟨h3, h4, h5, h1, h2⟩
theorem FileD.one_self (F : FileD) : F.one F = true := FileD.one_spec.2 rfl
/-- What is asked ahead of an operation that brings so many bytes, and what it comes to. -/
def FileD.asked (F : FileD) (more : Int) : FileD × Int :=
  if F.off = true then (F, 10)
  else if 524288 - (F.many : Int) < more then (F, 8)
  else if F.fault = 0 then ({ F with fault := -1 }, 9)
  else if F.fuse = 0 then ({ F with fault := if 0 < F.fault then F.fault - 1 else F.fault, fuse := -1, off := true }, 10)
  else ({ F with fault := if 0 < F.fault then F.fault - 1 else F.fault, fuse := if 0 < F.fuse then F.fuse - 1 else F.fuse }, 0)
/-- What an operation comes to. -/
def FileD.op (F : FileD) (more : Int) (g : FileD → FileD) : FileD × Int :=
  if F.right = true then (if (F.asked more).2 = 0 then (g (F.asked more).1, 0) else F.asked more) else (F, 200)
def FileD.append (F : FileD) (b : List UInt8) : FileD × Int :=
  if F.right = true ∧ b = [] then (F, 2) else F.op b.length fun G => { G with loose := G.loose ++ [b] }
def FileD.sync (F : FileD) : FileD × Int := F.op 0 fun G => { G with firm := G.all, loose := [] }
def FileD.set (F : FileD) (g : FileD → FileD) : FileD × Int :=
  if F.right = true then (if F.off = true then (F, 10) else (g F, 0)) else (F, 200)
def FileD.light (F : FileD) (n : Int) : FileD × Int := F.set fun G => { G with fuse := max n (-1) }
def FileD.refuse (F : FileD) (n : Int) : FileD × Int := F.set fun G => { G with fault := max n (-1) }
def FileD.none : FileD := ⟨[], [], -1, -1, false⟩

/-- Where bytes may lie: in the blocks that S names. -/
def BytesIn (S : Nat → Prop) (a : Option Addr) (l : List UInt8) : Prop := ∀ (k : Nat) (x : UInt8), l[k]? = some x → ∃ b o : Nat, a = some ⟨b, o, none⟩ ∧ S b
structure BytesS (W : World) (S : Nat → Prop) (a : Option Addr) (len cap : Nat) (l : List UInt8) : Prop where
  at_ : BytesAt W a len cap l
  in_ : BytesIn S a l
structure LooseS (W : World) (S : Nat → Prop) (a : Option Addr) (len cap : Nat) (L : List (List UInt8)) : Prop where
  hlen : L.length = len
  hcap : len ≤ cap
  hmax : cap ≤ maxLen
  hfew : len ≤ 140737488355328
  hat : ∀ k p, L[k]? = some p → ∃ b o pa pl pc, a = some ⟨b, o, none⟩ ∧ b < W.heap.size ∧ S b ∧ W.cell? ⟨b, o + k, none⟩ = some (.slice pa pl pc) ∧ BytesS W S pa pl pc p
  hnil : a = none → cap = 0
structure FileS (W : World) (S : Nat → Prop) (fa : Option Addr) (fl fc : Nat) (la : Option Addr) (ll lc : Nat) (F : FileD) : Prop where
  firm : BytesS W S fa fl fc F.firm
  loose : LooseS W S la ll lc F.loose
  fuse : I64' F.fuse
  fault : I64' F.fault

theorem LooseS.at_ {W : World} {S : Nat → Prop} {a : Option Addr} {len cap : Nat} {L : List (List UInt8)} (h : LooseS W S a len cap L) : LooseAt W a len cap L :=
  ⟨h.hlen, h.hcap, h.hmax, h.hfew, fun k p hk => by
    obtain ⟨b, o, pa, pl, pc, h1, h2, _, h3, h4⟩ := h.hat k p hk
    exact ⟨b, o, pa, pl, pc, h1, h2, h3, h4.at_⟩, h.hnil⟩
theorem FileS.at_ {W : World} {S : Nat → Prop} {fa la : Option Addr} {fl fc ll lc : Nat} {F : FileD} (h : FileS W S fa fl fc la ll lc F) : FileAt W fa fl fc la ll lc F :=
  ⟨h.firm.at_, h.loose.at_, h.fuse, h.fault⟩
theorem BytesS.same {W W' : World} {S : Nat → Prop} {a : Option Addr} {len cap : Nat} {l : List UInt8} (h : BytesS W S a len cap l) (hs : W.heap.size ≤ W'.heap.size) (hb : ∀ b, S b → b < W.heap.size → W'.heap[b]? = W.heap[b]?) : BytesS W' S a len cap l :=
  ⟨⟨h.at_.hlen, h.at_.hcap, h.at_.hmax, h.at_.hfew, fun k x hk => by
    obtain ⟨b, o, h1, h2, h3⟩ := h.at_.hat k x hk
    obtain ⟨b', o', h1', h4⟩ := h.in_ k x hk
    rw [h1] at h1'; cases h1'
    exact ⟨b, o, h1, by omega, (World.cell?_of_block (hb b h4 h2)).trans h3⟩, h.at_.hnil⟩, h.in_⟩
theorem LooseS.same {W W' : World} {S : Nat → Prop} {a : Option Addr} {len cap : Nat} {L : List (List UInt8)} (h : LooseS W S a len cap L) (hs : W.heap.size ≤ W'.heap.size) (hb : ∀ b, S b → b < W.heap.size → W'.heap[b]? = W.heap[b]?) : LooseS W' S a len cap L :=
  ⟨h.hlen, h.hcap, h.hmax, h.hfew, fun k p hk => by
    obtain ⟨b, o, pa, pl, pc, h1, h2, h3, h4, h5⟩ := h.hat k p hk
    exact ⟨b, o, pa, pl, pc, h1, by omega, h3, (World.cell?_of_block (hb b h3 h2)).trans h4, h5.same hs hb⟩, h.hnil⟩
theorem FileS.same {W W' : World} {S : Nat → Prop} {fa la : Option Addr} {fl fc ll lc : Nat} {F : FileD} (h : FileS W S fa fl fc la ll lc F) (hs : W.heap.size ≤ W'.heap.size) (hb : ∀ b, S b → b < W.heap.size → W'.heap[b]? = W.heap[b]?) : FileS W' S fa fl fc la ll lc F :=
  ⟨h.firm.same hs hb, h.loose.same hs hb, h.fuse, h.fault⟩
theorem BytesS.ext {W W' : World} {S : Nat → Prop} {a : Option Addr} {len cap : Nat} {l : List UInt8} (h : BytesS W S a len cap l) (hb : Below W.heap.size W W') : BytesS W' S a len cap l := h.same hb.size fun b _ h2 => hb.block b h2
theorem LooseS.ext {W W' : World} {S : Nat → Prop} {a : Option Addr} {len cap : Nat} {L : List (List UInt8)} (h : LooseS W S a len cap L) (hb : Below W.heap.size W W') : LooseS W' S a len cap L := h.same hb.size fun b _ h2 => hb.block b h2
theorem FileS.ext {W W' : World} {S : Nat → Prop} {fa la : Option Addr} {fl fc ll lc : Nat} {F : FileD} (h : FileS W S fa fl fc la ll lc F) (hb : Below W.heap.size W W') : FileS W' S fa fl fc la ll lc F := h.same hb.size fun b _ h2 => hb.block b h2
theorem BytesIn.mono {S T : Nat → Prop} {a : Option Addr} {l : List UInt8} (h : BytesIn S a l) (hst : ∀ b, S b → T b) : BytesIn T a l := fun k x hk => by
  obtain ⟨b, o, h1, h2⟩ := h k x hk
  exact ⟨b, o, h1, hst b h2⟩
theorem BytesS.mono {W : World} {S T : Nat → Prop} {a : Option Addr} {len cap : Nat} {l : List UInt8} (h : BytesS W S a len cap l) (hst : ∀ b, S b → T b) : BytesS W T a len cap l := ⟨h.at_, h.in_.mono hst⟩
theorem LooseS.mono {W : World} {S T : Nat → Prop} {a : Option Addr} {len cap : Nat} {L : List (List UInt8)} (h : LooseS W S a len cap L) (hst : ∀ b, S b → T b) : LooseS W T a len cap L :=
  ⟨h.hlen, h.hcap, h.hmax, h.hfew, fun k p hk => by
    obtain ⟨b, o, pa, pl, pc, h1, h2, h3, h4, h5⟩ := h.hat k p hk
    exact ⟨b, o, pa, pl, pc, h1, h2, hst b h3, h4, h5.mono hst⟩, h.hnil⟩
theorem FileS.mono {W : World} {S T : Nat → Prop} {fa la : Option Addr} {fl fc ll lc : Nat} {F : FileD} (h : FileS W S fa fl fc la ll lc F) (hst : ∀ b, S b → T b) : FileS W T fa fl fc la ll lc F :=
  ⟨h.firm.mono hst, h.loose.mono hst, h.fuse, h.fault⟩
theorem BytesAt.s {W : World} {a : Option Addr} {len cap : Nat} {l : List UInt8} (h : BytesAt W a len cap l) : BytesS W (fun b => b < W.heap.size) a len cap l :=
  ⟨h, fun k x hk => by obtain ⟨b, o, h1, h2, _⟩ := h.hat k x hk; exact ⟨b, o, h1, h2⟩⟩
theorem LooseAt.s {W : World} {a : Option Addr} {len cap : Nat} {L : List (List UInt8)} (h : LooseAt W a len cap L) : LooseS W (fun b => b < W.heap.size) a len cap L :=
  ⟨h.hlen, h.hcap, h.hmax, h.hfew, fun k p hk => by
    obtain ⟨b, o, pa, pl, pc, h1, h2, h3, h4⟩ := h.hat k p hk
    exact ⟨b, o, pa, pl, pc, h1, h2, h2, h3, h4.s⟩, h.hnil⟩
theorem FileAt.s {W : World} {fa la : Option Addr} {fl fc ll lc : Nat} {F : FileD} (h : FileAt W fa fl fc la ll lc F) : FileS W (fun b => b < W.heap.size) fa fl fc la ll lc F :=
  ⟨h.firm.s, h.loose.s, h.fuse, h.fault⟩
theorem BytesS.nil_ {W : World} {S : Nat → Prop} : BytesS W S none 0 0 [] := ⟨⟨rfl, Nat.le_refl _, by unfold maxLen; omega, by omega, fun k x hk => by simp at hk, fun _ => rfl⟩, fun k x hk => by simp at hk⟩
theorem LooseS.nil_ {W : World} {S : Nat → Prop} : LooseS W S none 0 0 [] := ⟨rfl, Nat.le_refl _, by unfold maxLen; omega, by omega, fun k x hk => by simp at hk, fun _ => rfl⟩

/-- The blocks of S, and what a call that began in w has made. -/
def Or (S : Nat → Prop) (w : World) (b : Nat) : Prop := S b ∨ w.heap.size ≤ b
/-- A file and an error are handed back. -/
def GivesFile (w : World) (S : Nat → Prop) (F : FileD) (err : Int) (e : Ending) (w' : World) : Prop :=
  ∃ fa fl fc la ll lc, e = .returned (.tuple #[.agg #[.slice fa fl fc, .slice la ll lc, .int .i64 F.fuse, .int .i64 F.fault, .bool F.off], .int .i64 err]) ∧ FileS w' (Or S w) fa fl fc la ll lc F ∧ Below w.heap.size w w'

theorem BytesAt.nil_ {W : World} : BytesAt W none 0 0 [] := ⟨rfl, Nat.le_refl _, by unfold maxLen; omega, by omega, fun k x hk => by simp at hk, fun _ => rfl⟩
theorem LooseAt.nil_ {W : World} : LooseAt W none 0 0 [] := ⟨rfl, Nat.le_refl _, by unfold maxLen; omega, by omega, fun k x hk => by simp at hk, fun _ => rfl⟩
end Go.Dav

namespace Go.Dav
set_option linter.unusedVariables false
set_option linter.unusedSimpArgs false
open Go Go.RowKit

/-- The cells of a slice, and the blocks where they lie. -/
structure CellsS (W : World) (S : Nat → Prop) (a : Option Addr) (n : Nat) (xs : List Value) : Prop where
  len : xs.length = n
  at_ : ∀ (k : Nat) (v : Value), xs[k]? = some v → ∃ b o : Nat, a = some ⟨b, o, none⟩ ∧ b < W.heap.size ∧ S b ∧ W.cell? ⟨b, o + k, none⟩ = some v

/-- Bytes, as cells. -/
def u8s (l : List UInt8) : List Value := l.map fun x => Value.int .u8 (x.toNat : Int)
theorem u8s_one (l : List UInt8) : ∀ u ∈ u8s l, u.oneCell' = true := fun u hu => by
  obtain ⟨x, _, rfl⟩ := List.mem_map.1 hu; rfl
theorem u8s_len (l : List UInt8) : (u8s l).length = l.length := by simp [u8s]
theorem u8s_append (l k : List UInt8) : u8s (l ++ k) = u8s l ++ u8s k := by simp [u8s]
theorem u8s_inj {l k : List UInt8} (h : u8s l = u8s k) : l = k := by
  unfold u8s at h
  refine (List.map_inj_right (fun x y hxy => ?_)).1 h
  injection hxy with _ h
  exact UInt8.toNat_inj.1 (by omega)
theorem u8s_get {l : List UInt8} {k : Nat} {x : UInt8} (h : l[k]? = some x) : (u8s l)[k]? = some (.int .u8 (x.toNat : Int)) := by simp [u8s, h]

theorem BytesS.cells {W : World} {S : Nat → Prop} {a : Option Addr} {n cap : Nat} {l : List UInt8} (h : BytesS W S a n cap l) : CellsS W S a n (u8s l) :=
  ⟨by rw [u8s_len, h.at_.hlen], fun k v hk => by
    unfold u8s at hk
    rw [List.getElem?_map] at hk
    cases hx : l[k]? with
    | none => rw [hx] at hk; cases hk
    | some x =>
      rw [hx] at hk
      cases hk
      obtain ⟨b, o, h1, h2, h3⟩ := h.at_.hat k x hx
      obtain ⟨b', o', h1', h4⟩ := h.in_ k x hx
      rw [h1] at h1'; cases h1'
      exact ⟨b, o, h1, h2, h4, h3⟩⟩
theorem BytesS.of_cells {W : World} {S : Nat → Prop} {a : Option Addr} {n cap : Nat} {l : List UInt8} (h : CellsS W S a n (u8s l)) (h1 : n ≤ cap) (h2 : cap ≤ maxLen) (h3 : n ≤ 140737488355328) (h4 : a = none → cap = 0) : BytesS W S a n cap l :=
  ⟨⟨by rw [← h.len, u8s_len], h1, h2, h3, fun k x hk => by
    obtain ⟨b, o, g1, g2, _, g4⟩ := h.at_ k _ (u8s_get hk)
    exact ⟨b, o, g1, g2, g4⟩, h4⟩, fun k x hk => by
    obtain ⟨b, o, g1, _, g3, _⟩ := h.at_ k _ (u8s_get hk)
    exact ⟨b, o, g1, g3⟩⟩

theorem CellsS.ext {W W' : World} {S : Nat → Prop} {a : Option Addr} {n : Nat} {xs : List Value} (h : CellsS W S a n xs) (hb : Below W.heap.size W W') : CellsS W' S a n xs :=
  ⟨h.len, fun k v hk => by
    obtain ⟨b, o, h1, h2, h3, h4⟩ := h.at_ k v hk
    exact ⟨b, o, h1, Nat.lt_of_lt_of_le h2 hb.size, h3, by rw [hb.cell (p := ⟨b, o + k, none⟩) h2]; exact h4⟩⟩
theorem CellsS.same {W W' : World} {S : Nat → Prop} {a : Option Addr} {n : Nat} {xs : List Value} (h : CellsS W S a n xs) (hs : W.heap.size ≤ W'.heap.size) (hb : ∀ b, S b → b < W.heap.size → W'.heap[b]? = W.heap[b]?) : CellsS W' S a n xs :=
  ⟨h.len, fun k v hk => by
    obtain ⟨b, o, h1, h2, h3, h4⟩ := h.at_ k v hk
    exact ⟨b, o, h1, by omega, h3, (World.cell?_of_block (hb b h3 h2)).trans h4⟩⟩
theorem CellsS.mono {W : World} {S T : Nat → Prop} {a : Option Addr} {n : Nat} {xs : List Value} (h : CellsS W S a n xs) (hst : ∀ b, S b → T b) : CellsS W T a n xs :=
  ⟨h.len, fun k v hk => by
    obtain ⟨b, o, h1, h2, h3, h4⟩ := h.at_ k v hk
    exact ⟨b, o, h1, h2, hst b h3, h4⟩⟩
theorem CellsS.nil_ {W : World} {S : Nat → Prop} {a : Option Addr} : CellsS W S a 0 [] := ⟨rfl, fun k v hk => by simp at hk⟩

/-- The cells that lie one behind the other from an address on. -/
theorem CellsS.from_ {W : World} {S : Nat → Prop} {ad : Addr} {n : Nat} {xs : List Value} (h : CellsS W S (some ad) n xs) : ∀ j u, xs[j]? = some u → W.cell? (ad.add j) = some u := fun j u hj => by
  obtain ⟨b, o, h1, _, _, h4⟩ := h.at_ j u hj
  cases h1
  rw [Addr.add_mid]
  exact h4

theorem CellsS.src {P : Program} {W : World} {S : Nat → Prop} {a : Option Addr} {n c : Nat} {xs : List Value} (h : CellsS W S a n xs) (h1 : ∀ u ∈ xs, u.oneCell' = true) {t e : TypeId} (ht : P.underlying t = some (.slice e)) : Src P 1 t (.slice a n c) n xs W := by
  cases a with
  | none =>
    have h0 : xs = [] := by
      cases xs with
      | nil => rfl
      | cons x xs => obtain ⟨b, o, h1, _⟩ := h.at_ 0 x rfl; cases h1
    subst h0
    have hn : n = 0 := by have := h.len; simpa using this.symm
    subst hn
    exact Src.ofNil W ht c
  | some ad => exact Src.ofSlice W ht ad n c xs (by rw [h.len]; omega) h.from_ h1

/-- The element's row of the table: one cell. -/
structure Elem1 (P : Program) (t e : TypeId) (bytes : Nat) : Prop where
  ht : P.underlying t = some (.slice e)
  row : ∃ i z, P.info? e = some i ∧ i.zero = some z ∧ i.size = 1 ∧ i.bytes = bytes ∧ z.cells.size = 1

theorem own_cells {w : World} {base e n : Nat} {v : Value} {xs : List Value} (h : w.ownsRow base e 1 v n xs) :
    ∃ a cap, v = .slice a n cap ∧ n ≤ cap ∧ cap ≤ maxLen ∧ (a = none → cap = 0) ∧ CellsS w (fun b => base ≤ b) a n xs := by
  rcases h.2 with ⟨h1, h2⟩ | ⟨g, cap, cur, h1, h2, h3, h4, h5, _⟩
  · subst h1 h2
    have hx : xs = [] := List.length_eq_zero_iff.1 (by have := h.1; omega)
    subst hx
    exact ⟨none, 0, rfl, Nat.le_refl _, by unfold maxLen; omega, fun _ => rfl, CellsS.nil_⟩
  · subst h1
    refine ⟨_, cap, rfl, h4, h5, (fun h => by cases h), by have := h.1; omega, fun k v hk => ⟨g, 0, rfl, (Array.getElem?_eq_some_iff.1 h3).1, h2, ?_⟩⟩
    have := h.cells (g := g) rfl k v hk
    rw [Addr.add_mid] at this
    exact this

section
variable {P : Program} {W : World}

/-- append to a row of the call's own, from whatever slice. -/
theorem run_append_rowS {t e bytes : Nat} (E : Elem1 P t e bytes) (ty : TypeId) (base : Nat) (v : Value) (n : Nat) (xs : List Value) (hown : W.ownsRow base e 1 v n xs) (T : Nat → Prop) (ax : Option Addr) (m c : Nat) (ys : List Value) (hy : CellsS W T ax m ys)
    (h1 : ∀ u ∈ ys, u.oneCell' = true) (hnone : ax = none → c = 0) (h63 : n + m ≤ maxLen) (hbytes : (n + m) * bytes ≤ 140737488355328) (hbase : base ≤ W.heap.size) :
    ∃ v' w', (Builtin.append_ #[t, t] ty #[v, .slice ax m c]).run P W = .ok v' w' ∧ w'.ownsRow base e 1 v' (n + m) (xs ++ ys) ∧ W.grownBy w' v.ownBlock := by
  obtain ⟨i, z, hi, hz, hs, hb, hzs⟩ := E.row
  cases ax with
  | none =>
    have h0 : ys = [] := by
      cases ys with
      | nil => rfl
      | cons x xs => obtain ⟨b, o, h1, _⟩ := hy.at_ 0 x rfl; cases h1
    subst h0
    have hm : m = 0 := by have := hy.len; simpa using this.symm
    have hc := hnone rfl
    subst hm hc
    exact ⟨v, W, run_append_owned_none W base t ty e i 1 E.ht hi v n xs hown, by simpa using hown, World.grownBy.refl _ _⟩
  | some ad =>
    obtain ⟨v', w', r1, r2, r3, _⟩ := run_append_own (P := P) W base t ty e i z 1 bytes E.ht hi hz hs hb hzs (by omega) v n xs hown ad m c ys (by rw [hy.len]; omega) hy.from_ h1 h63 hbytes hbase
    exact ⟨v', w', r1, r2, r3⟩

/-- append to a slice that is full, from whatever slice. -/
theorem run_append_fullS {t e bytes : Nat} (E : Elem1 P t e bytes) (ty : TypeId) (S : Nat → Prop) (a : Option Addr) (n : Nat) (xs : List Value) (hx : CellsS W S a n xs) (T : Nat → Prop) (ax : Option Addr) (m c : Nat) (ys : List Value) (hy : CellsS W T ax m ys)
    (h1 : ∀ u ∈ ys, u.oneCell' = true) (hnone : a = none → n = 0) (h63 : n + m ≤ maxLen) (hbytes : (n + m) * bytes ≤ 140737488355328) :
    ∃ a' cap' w', (Builtin.append_ #[t, t] ty #[.slice a n n, .slice ax m c]).run P W = .ok (.slice a' (n + m) cap') w' ∧ CellsS w' (fun b => (S b ∧ m = 0) ∨ W.heap.size ≤ b) a' (n + m) (xs ++ ys) ∧ n + m ≤ cap' ∧ cap' ≤ maxLen ∧ (a' = none → cap' = 0) ∧ Below W.heap.size W w' := by
  obtain ⟨i, z, hi, hz, hs, hb, hzs⟩ := E.row
  have hsrc : Src P i.size t (.slice ax m c) m ys W := by rw [hs]; exact hy.src h1 E.ht
  by_cases hm : m = 0
  · subst hm
    have h0 : ys = [] := List.length_eq_zero_iff.1 hy.len
    subst h0
    refine ⟨a, n, W, run_append_nothing W t t ty e i E.ht hi a n n (Nat.le_refl _) _ hsrc, ?_, Nat.le_refl _, by omega, hnone, Below.refl _ _⟩
    rw [List.append_nil]
    exact hx.mono fun b hb => .inl ⟨hb, rfl⟩
  · have hold : (Builtin.firstCells i.size n (.slice a n n)).run P W.drew = .ok xs.toArray W.drew := by
      cases a with
      | none =>
        have h0 : xs = [] := by
          cases xs with
          | nil => rfl
          | cons x xs => obtain ⟨b, o, h1, _⟩ := hx.at_ 0 x rfl; cases h1
        subst h0
        rw [hnone rfl]
        exact run_firstCells_none W.drew i.size 0 0 0
      | some ad =>
        refine run_firstCells_some W.drew i.size n ad n n xs (by rw [hx.len, hs]; omega) ?_
        have := hx.from_
        simpa using this
    have h64 : n + m ≤ 9223372036854775807 := by simp only [maxLen] at h63; omega
    have hr := run_append_grow_src (P := P) W t t ty e i z E.ht hi hz a n n xs hold _ m ys hsrc (by omega) (by omega) (growslice_fits (by omega) (by rw [hb]; exact hbytes))
    have hge := grownCap_ge W (n + m) n e
    have hcm : grownCap W (n + m) n e ≤ maxLen := grownCap_le_maxLen W (n + m) n e h63
    refine ⟨_, _, _, hr, ⟨by rw [List.length_append, hx.len, hy.len], fun k v hk => ⟨W.heap.size, 0, rfl, by simp, .inr (Nat.le_refl _), ?_⟩⟩, hge, hcm, (fun h => by cases h), ?_⟩
    · have hnew := heap_alloc_new W.drew (.cells ((xs ++ ys).toArray ++ Builtin.zeroCells z.cells (grownCap W (n + m) n e - (n + m))) e)
      have hlt := (List.getElem?_eq_some_iff.1 hk).1
      rw [World.cell?]
      have e1 : W.drew.heap.size = W.heap.size := rfl
      rw [e1] at hnew
      simp only [hnew]
      simp
      rw [Array.getElem?_append_left (by simpa using hlt)]
      simpa using hk
    · exact (Below.refl _ _).drew.alloc (Nat.le_refl _) _

variable {ops : Array Oper} {rest : List Oper} {o : Oper} {a : Act} {Q : Exit → Act → World → Prop}

theorem wpList_append_rowS (hgd : o.guard = none) (s x : Operand) (t : TypeId) (ho : o.op = .call { callee := .builtin .append, args := #[s, x], argTypes := #[t, t] }) {e bytes : Nat} (E : Elem1 P t e bytes) (base : Nat) (v : Value) (n : Nat) (xs : List Value) (hs : a.eval s = v) (hown : W.ownsRow base e 1 v n xs)
    (T : Nat → Prop) (ax : Option Addr) (m c : Nat) (ys : List Value) (hx : a.eval x = .slice ax m c) (hy : CellsS W T ax m ys)
    (h1 : ∀ u ∈ ys, u.oneCell' = true) (hnone : ax = none → c = 0) (h63 : n + m ≤ maxLen) (hbytes : (n + m) * bytes ≤ 140737488355328) (hbase : base ≤ W.heap.size)
    (h : ∀ v' w', w'.ownsRow base e 1 v' (n + m) (xs ++ ys) → W.grownBy w' v.ownBlock → wpList P ops Q rest (a.put o.dst v') w') : wpList P ops Q (o :: rest) a W := by
  refine wpList_plain hgd fun K hK => ?_
  obtain ⟨v', w', hr, h2, h3⟩ := run_append_rowS (P := P) E o.type base v n xs hown T ax m c ys hy h1 hnone h63 hbytes hbase
  unfold Oper.wp execOp
  simp only [ho, resolve, invoke, builtin, Sem.run_bind, Sem.run_pure, Result.andThen_ok, List.map_toArray, List.map_cons, List.map_nil, hs, hx, hr]
  exact hK _ _ (h v' w' h2 h3)

theorem wpList_append_fullS (hgd : o.guard = none) (s x : Operand) (t : TypeId) (ho : o.op = .call { callee := .builtin .append, args := #[s, x], argTypes := #[t, t] }) {e bytes : Nat} (E : Elem1 P t e bytes) (S : Nat → Prop) (b : Option Addr) (n : Nat) (xs : List Value) (hs : a.eval s = .slice b n n) (hx' : CellsS W S b n xs)
    (T : Nat → Prop) (ax : Option Addr) (m c : Nat) (ys : List Value) (hx : a.eval x = .slice ax m c) (hy : CellsS W T ax m ys)
    (h1 : ∀ u ∈ ys, u.oneCell' = true) (hnone : b = none → n = 0) (h63 : n + m ≤ maxLen) (hbytes : (n + m) * bytes ≤ 140737488355328)
    (h : ∀ a' cap' w', CellsS w' (fun b => (S b ∧ m = 0) ∨ W.heap.size ≤ b) a' (n + m) (xs ++ ys) → n + m ≤ cap' → cap' ≤ maxLen → (a' = none → cap' = 0) → Below W.heap.size W w' → wpList P ops Q rest (a.put o.dst (.slice a' (n + m) cap')) w') : wpList P ops Q (o :: rest) a W := by
  refine wpList_plain hgd fun K hK => ?_
  obtain ⟨a', cap', w', hr, h2, h3, h4, h5, h6⟩ := run_append_fullS (P := P) E o.type S b n xs hx' T ax m c ys hy h1 hnone h63 hbytes
  unfold Oper.wp execOp
  simp only [ho, resolve, invoke, builtin, Sem.run_bind, Sem.run_pure, Result.andThen_ok, List.map_toArray, List.map_cons, List.map_nil, hs, hx, hr]
  exact hK _ _ (h a' cap' w' h2 h3 h4 h5 h6)
end
/-- Bytes in memory that is new since B. -/
def NewBytes (B : Nat) (x : List UInt8) (v : Value) (W : World) : Prop := ∃ a n c, v = .slice a n c ∧ BytesS W (fun b => B ≤ b) a n c x
theorem NewBytes.later {B : Nat} {x : List UInt8} : ∀ v W W', NewBytes B x v W → Below W.heap.size W W' → NewBytes B x v W' :=
  fun _ _ _ ⟨a, n, c, h1, h2⟩ hb => ⟨a, n, c, h1, h2.ext hb⟩
/-- A slice of one slice of bytes, both new since B. -/
def NewPiece (B : Nat) (x : List UInt8) (v : Value) (W : World) : Prop := ∃ g a n c, v = .slice (some ⟨g, 0, none⟩) 1 1 ∧ B ≤ g ∧ g < W.heap.size ∧ W.cell? ⟨g, 0, none⟩ = some (.slice a n c) ∧ BytesS W (fun b => B ≤ b) a n c x
theorem NewPiece.later {B : Nat} {x : List UInt8} : ∀ v W W', NewPiece B x v W → Below W.heap.size W W' → NewPiece B x v W' :=
  fun _ _ _ ⟨g, a, n, c, h1, h2, h3, h4, h5⟩ hb => ⟨g, a, n, c, h1, h2, Nat.lt_of_lt_of_le h3 hb.size, by rw [hb.cell (p := ⟨g, 0, none⟩) h3]; exact h4, h5.ext hb⟩
/-- Pieces of a file. -/
def Pieces (S : Nat → Prop) (L : List (List UInt8)) (v : Value) (W : World) : Prop := ∃ a n c, v = .slice a n c ∧ LooseS W S a n c L
theorem Pieces.later {S : Nat → Prop} {L : List (List UInt8)} : ∀ v W W', Pieces S L v W → Below W.heap.size W W' → Pieces S L v W' :=
  fun _ _ _ ⟨a, n, c, h1, h2⟩ hb => ⟨a, n, c, h1, h2.ext hb⟩

/-- The cells of a slice of pieces. -/
def PieceCells (W : World) (S : Nat → Prop) (vs : List Value) (L : List (List UInt8)) : Prop :=
  vs.length = L.length ∧ ∀ (k : Nat) (p : List UInt8), L[k]? = some p → ∃ pa pl pc, vs[k]? = some (.slice pa pl pc) ∧ BytesS W S pa pl pc p
theorem PieceCells.ext {W W' : World} {S : Nat → Prop} {vs : List Value} {L : List (List UInt8)} (h : PieceCells W S vs L) (hb : Below W.heap.size W W') : PieceCells W' S vs L :=
  ⟨h.1, fun k p hk => by obtain ⟨pa, pl, pc, h1, h2⟩ := h.2 k p hk; exact ⟨pa, pl, pc, h1, h2.ext hb⟩⟩
theorem PieceCells.mono {W : World} {S T : Nat → Prop} {vs : List Value} {L : List (List UInt8)} (h : PieceCells W S vs L) (hst : ∀ b, S b → T b) : PieceCells W T vs L :=
  ⟨h.1, fun k p hk => by obtain ⟨pa, pl, pc, h1, h2⟩ := h.2 k p hk; exact ⟨pa, pl, pc, h1, h2.mono hst⟩⟩
theorem PieceCells.append {W : World} {S : Nat → Prop} {vs ws : List Value} {L K : List (List UInt8)} (h : PieceCells W S vs L) (k : PieceCells W S ws K) : PieceCells W S (vs ++ ws) (L ++ K) := by
  refine ⟨by simp [h.1, k.1], fun i p hp => ?_⟩
  by_cases hi : i < L.length
  · rw [List.getElem?_append_left hi] at hp
    obtain ⟨pa, pl, pc, h1, h2⟩ := h.2 i p hp
    exact ⟨pa, pl, pc, by rw [List.getElem?_append_left (by rw [h.1]; exact hi)]; exact h1, h2⟩
  · rw [List.getElem?_append_right (by omega)] at hp
    obtain ⟨pa, pl, pc, h1, h2⟩ := k.2 _ p hp
    exact ⟨pa, pl, pc, by rw [List.getElem?_append_right (by rw [h.1]; omega), h.1]; exact h1, h2⟩
theorem PieceCells.one {W : World} {S : Nat → Prop} {vs : List Value} {L : List (List UInt8)} (h : PieceCells W S vs L) : ∀ u ∈ vs, u.oneCell' = true := fun u hu => by
  obtain ⟨k, hk, e⟩ := List.mem_iff_getElem.1 hu
  obtain ⟨pa, pl, pc, h1, _⟩ := h.2 k (L[k]'(by rw [← h.1]; exact hk)) (List.getElem?_eq_getElem (by rw [← h.1]; exact hk))
  rw [List.getElem?_eq_getElem hk] at h1
  have h2 := Option.some.inj h1
  rw [e] at h2
  rw [h2]; rfl
theorem LooseS.open_ {W : World} {S : Nat → Prop} {a : Option Addr} {n c : Nat} {L : List (List UInt8)} (h : LooseS W S a n c L) : ∃ vs, CellsS W S a n vs ∧ PieceCells W S vs L := by
  have key : ∀ i, i < L.length → ∃ v : Value, ∃ p, L[i]? = some p ∧ ∃ b o pa pl pc, a = some ⟨b, o, none⟩ ∧ b < W.heap.size ∧ S b ∧ W.cell? ⟨b, o + i, none⟩ = some v ∧ v = .slice pa pl pc ∧ BytesS W S pa pl pc p := fun i hi => by
    obtain ⟨b, o, pa, pl, pc, h1, h2, h3, h4, h5⟩ := h.hat i L[i] (List.getElem?_eq_getElem hi)
    exact ⟨_, L[i], List.getElem?_eq_getElem hi, b, o, pa, pl, pc, h1, h2, h3, h4, rfl, h5⟩
  have list : ∀ m, m ≤ L.length → ∃ vs : List Value, vs.length = m ∧ ∀ (k : Nat) (v : Value), vs[k]? = some v → ∃ p, L[k]? = some p ∧ ∃ b o pa pl pc, a = some ⟨b, o, none⟩ ∧ b < W.heap.size ∧ S b ∧ W.cell? ⟨b, o + k, none⟩ = some v ∧ v = .slice pa pl pc ∧ BytesS W S pa pl pc p := by
    intro m
    induction m with
    | zero => intro _; exact ⟨[], rfl, fun k v hk => by simp at hk⟩
    | succ m ih =>
      intro hm
      obtain ⟨vs, hl, hv⟩ := ih (by omega)
      obtain ⟨v, hv2⟩ := key m (by omega)
      refine ⟨vs ++ [v], by simp [hl], fun k u hk => ?_⟩
      by_cases hkm : k < vs.length
      · rw [List.getElem?_append_left hkm] at hk; exact hv k u hk
      · rw [List.getElem?_append_right (by omega)] at hk
        have hlt := (List.getElem?_eq_some_iff.1 hk).1
        simp at hlt
        have e : k = m := by omega
        subst e
        rw [hl, Nat.sub_self] at hk
        cases hk
        exact hv2
  obtain ⟨vs, hl, hv⟩ := list L.length (Nat.le_refl _)
  refine ⟨vs, ⟨by rw [hl, h.hlen], fun k v hk => ?_⟩, hl, fun k p hp => ?_⟩
  · obtain ⟨p, _, b, o, _, _, _, h1, h2, h3, h4, _⟩ := hv k v hk
    exact ⟨b, o, h1, h2, h3, h4⟩
  · have hk : k < vs.length := by rw [hl]; exact (List.getElem?_eq_some_iff.1 hp).1
    obtain ⟨p', hp', b, o, pa, pl, pc, _, _, _, _, h5, h6⟩ := hv k vs[k] (List.getElem?_eq_getElem hk)
    rw [hp] at hp'; cases hp'
    exact ⟨pa, pl, pc, by rw [List.getElem?_eq_getElem hk, h5], h6⟩
theorem LooseS.shut_ {W : World} {S : Nat → Prop} {a : Option Addr} {n c : Nat} {L : List (List UInt8)} {vs : List Value} (h : CellsS W S a n vs) (k : PieceCells W S vs L) (h1 : n ≤ c) (h2 : c ≤ maxLen) (h3 : n ≤ 140737488355328) (h4 : a = none → c = 0) : LooseS W S a n c L :=
  ⟨by rw [← k.1, h.len], h1, h2, h3, fun i p hp => by
    obtain ⟨pa, pl, pc, g1, g2⟩ := k.2 i p hp
    obtain ⟨b, o, f1, f2, f3, f4⟩ := h.at_ i _ g1
    exact ⟨b, o, pa, pl, pc, f1, f2, f3, f4, g2⟩, h4⟩

theorem newPiece_alloc {B : Nat} {x : List UInt8} {W : World} {a : Option Addr} {n c : Nat} {t : TypeId} (h : B ≤ W.heap.size) (hB : BytesS W (fun b => B ≤ b) a n c x) :
    Below W.heap.size W (W.alloc (.cells #[.slice a n c] t)) ∧ NewPiece B x (.slice (some ⟨W.heap.size, 0, none⟩) 1 1) (W.alloc (.cells #[.slice a n c] t)) :=
  ⟨(Below.refl _ _).alloc (Nat.le_refl _) _, W.heap.size, a, n, c, rfl, h, by simp, (Blk.new W [_] t).cell 0 rfl, hB.ext ((Below.refl _ _).alloc (Nat.le_refl _) _)⟩
theorem cells_one {W : World} {S : Nat → Prop} {g : Nat} {v : Value} (h1 : S g) (h2 : g < W.heap.size) (h3 : W.cell? ⟨g, 0, none⟩ = some v) : CellsS W S (some ⟨g, 0, none⟩) 1 [v] :=
  ⟨rfl, fun k u hk => by
    match k, hk with
    | 0, hk => cases hk; exact ⟨g, 0, rfl, h2, h1, h3⟩
    | k + 1, hk => simp at hk⟩
theorem full_len : ∀ {L : List (List UInt8)}, (L.all fun p => !p.isEmpty) = true → L.length ≤ (L.map List.length).sum
  | [], _ => by simp
  | p :: L, h => by
    rw [List.all_cons, Bool.and_eq_true] at h
    have ih := full_len h.2
    have hp : 1 ≤ p.length := by cases p with | nil => simp at h | cons => simp
    simp only [List.length_cons, List.map_cons, List.sum_cons]
    omega
theorem pieces_append {W0 W W' : World} {S : Nat → Prop} {vs : List Value} {L : List (List UInt8)} {x : List UInt8} {a a' : Option Addr} {n c c' m : Nat} (hp : PieceCells W S vs L) (hc : CellsS W' (fun b => (S b ∧ 1 = 0) ∨ W.heap.size ≤ b) a' m (vs ++ [.slice a n c])) (hB : BytesS W (fun b => W0.heap.size ≤ b) a n c x)
    (hb : Below W.heap.size W W') (hs : W0.heap.size ≤ W.heap.size) (h1 : m ≤ c') (h2 : c' ≤ maxLen) (h3 : m ≤ 140737488355328) (h4 : a' = none → c' = 0) : LooseS W' (Or S W0) a' m c' (L ++ [x]) := by
  refine LooseS.shut_ (hc.mono fun b h => ?_) (PieceCells.append ((hp.ext hb).mono fun b h => Or.inl h) ⟨rfl, fun k p hk => ?_⟩) h1 h2 h3 h4
  · rcases h with ⟨_, h⟩ | h
    · cases h
    · exact .inr (by omega)
  · match k, hk with
    | 0, hk => cases hk; exact ⟨a, n, c, rfl, (hB.ext hb).mono fun b h => Or.inr h⟩
    | k + 1, hk => simp at hk
theorem gives_append {P : Program} {o : Oper} {a : Act} {W w' : World} {R : Value → World → Prop} {s x : Operand} {t : TypeId} {v1 v2 v' : Value} (ho : o.op = .call { callee := .builtin .append, args := #[s, x], argTypes := #[t, t] }) (hs : a.eval s = v1) (hx : a.eval x = v2)
    (hr : (Builtin.append_ #[t, t] o.type #[v1, v2]).run P W = .ok v' w') (hb : Below W.heap.size W w') (hR : R v' w') : Gives P o a W R := by
  unfold Gives execOp
  simp only [ho, resolve, invoke, builtin, Sem.run_bind, Sem.run_pure, Result.andThen_ok, List.map_toArray, List.map_cons, List.map_nil, hs, hx, hr]
  exact ⟨hb, hR⟩
theorem PieceCells.same {W W' : World} {S : Nat → Prop} {vs : List Value} {L : List (List UInt8)} (h : PieceCells W S vs L) (hs : W.heap.size ≤ W'.heap.size) (hb : ∀ b, S b → b < W.heap.size → W'.heap[b]? = W.heap[b]?) : PieceCells W' S vs L :=
  ⟨h.1, fun k p hk => by obtain ⟨pa, pl, pc, h1, h2⟩ := h.2 k p hk; exact ⟨pa, pl, pc, h1, h2.same hs hb⟩⟩
theorem ownsRow_ext {w w' : World} {base e size n : Nat} {v : Value} {xs : List Value} (h : w.ownsRow base e size v n xs) (hb : Below w.heap.size w w') : w'.ownsRow base e size v n xs := by
  refine ⟨h.1, ?_⟩
  rcases h.2 with h2 | ⟨g, cap, cur, h1, h2, h3, h4⟩
  · exact .inl h2
  · exact .inr ⟨g, cap, cur, h1, h2, (hb.block g (Array.getElem?_eq_some_iff.1 h3).1).trans h3, h4⟩
theorem below_own {W0 w w' : World} {base B e size n : Nat} {v : Value} {xs : List Value} (hb : Below B W0 w) (hs : B ≤ w.heap.size) (h : w.ownsRow base e size v n xs) (hB : B ≤ base) (hg : w.grownBy w' v.ownBlock) : Below B W0 w' :=
  hb.grown hg hs fun k hk => Nat.le_trans hB (h.lt k hk).1
theorem pieces_one {W : World} {S : Nat → Prop} {a : Option Addr} {n c : Nat} {x : List UInt8} (h : BytesS W S a n c x) : PieceCells W S [.slice a n c] [x] :=
  ⟨rfl, fun k p hk => by
    match k, hk with
    | 0, hk => cases hk; exact ⟨a, n, c, rfl, h⟩
    | k + 1, hk => simp at hk⟩
end Go.Dav

namespace Go.Dav
set_option linter.unusedVariables false
set_option linter.unusedSimpArgs false
open Go Go.RowKit
/-- Is a number a code point? -/
def isCp (c : Nat) : Bool := decide (c ≤ 1114111) && !(decide (55296 ≤ c) && decide (c ≤ 57343))
/-- A code point's bytes. -/
def cpBytes (c : Nat) : List UInt8 :=
  if c < 128 then [UInt8.ofNat c]
  else if c < 2048 then [UInt8.ofNat (192 + c / 64), UInt8.ofNat (128 + c % 64)]
  else if c < 65536 then [UInt8.ofNat (224 + c / 4096), UInt8.ofNat (128 + c / 64 % 64), UInt8.ofNat (128 + c % 64)]
  else [UInt8.ofNat (240 + c / 262144), UInt8.ofNat (128 + c / 4096 % 64), UInt8.ofNat (128 + c / 64 % 64), UInt8.ofNat (128 + c % 64)]
/-- Do bytes begin with others? -/
def startsB (b x : List UInt8) : Bool := decide (x.length ≤ b.length ∧ b.take x.length = x)
theorem cpBytes_len (c : Nat) : 1 ≤ (cpBytes c).length ∧ (cpBytes c).length ≤ 4 := by
  unfold cpBytes
  split
  · simp
  · split
    · simp
    · split <;> simp
theorem blk_bytes {W : World} {p n : Nat} {l : List UInt8} {t : TypeId} (h : Blk W p (u8s l) t) (hn : l.length = n) (hm : n ≤ 140737488355328) : BytesAt W (some ⟨p, 0, none⟩) n n l :=
  ⟨hn, Nat.le_refl _, by unfold maxLen; omega, hm, fun k x hk => ⟨p, 0, rfl, h.lt, by rw [Nat.zero_add]; exact h.cell k (u8s_get hk)⟩, fun e => by cases e⟩
/-- Bytes in a block of their own. -/
def OwnB (B : Nat) (l : List UInt8) (e : Ending) (w' : World) : Prop := ∃ p, B ≤ p ∧ e = .returned (.slice (some ⟨p, 0, none⟩) l.length l.length) ∧ BytesAt w' (some ⟨p, 0, none⟩) l.length l.length l
end Go.Dav
namespace Go.Proofs.YtmcmknndhppljaaDoor
set_option linter.unusedVariables false
set_option linter.unusedSimpArgs false
open Go.RowKit Go.Dav
attribute [local go_sem] Gives ite_val ite_val_true

theorem Tryd_rIs (c : Nat) (w : World) : Calls Tryd.prog 91 #[.int .i64 (c : Int)] w fun e w' => e = .returned (.bool (isCp c)) ∧ Below w.heap.size w w' := by
  obtain ⟨r, hr⟩ : ∃ r, isCp c = r := ⟨_, rfl⟩
  rw [hr]
  have HR := Lib.hid hr
  clear hr
  by_cases h1 : c ≤ 1114111
  · by_cases h2 : 55296 ≤ c
    · by_cases h3 : c ≤ 57343
      · have g1 : (c : Int) ≤ 1114111 := by omega
        have g2 : (55296 : Int) ≤ (c : Int) := by omega
        have g3 : (c : Int) ≤ 57343 := by omega
        have g0 : (0 : Int) ≤ (c : Int) := by omega
        have e : r = false := by rw [← HR.out]; simp [isCp, h2, h3]
        clear h1 h2 h3 HR
        subst e
        go_enter Tryd.func91, Tryd.ntmps91
        go_wp2
        go_ret
        exact ⟨rfl, (by repeat (first | (with_reducible exact Below.refl _ _) | (with_reducible exact Below.refl _ _) | (with_reducible refine Below.setCell ?_ (by first | omega | (simp; done) | (simp; omega)) _) | (with_reducible refine Below.alloc ?_ (by first | omega | (simp; done) | (simp; omega)) _) | (with_reducible refine Below.drew ?_) | (with_reducible refine below_drewN ?_ _)))⟩
      · have g1 : (c : Int) ≤ 1114111 := by omega
        have g2 : (55296 : Int) ≤ (c : Int) := by omega
        have g3 : ¬ (c : Int) ≤ 57343 := by omega
        have g0 : (0 : Int) ≤ (c : Int) := by omega
        have e : r = true := by rw [← HR.out]; simp [isCp, h1, h3]
        clear h1 h2 h3 HR
        subst e
        go_enter Tryd.func91, Tryd.ntmps91
        go_wp2
        go_ret
        exact ⟨rfl, (by repeat (first | (with_reducible exact Below.refl _ _) | (with_reducible exact Below.refl _ _) | (with_reducible refine Below.setCell ?_ (by first | omega | (simp; done) | (simp; omega)) _) | (with_reducible refine Below.alloc ?_ (by first | omega | (simp; done) | (simp; omega)) _) | (with_reducible refine Below.drew ?_) | (with_reducible refine below_drewN ?_ _)))⟩
    · have g1 : (c : Int) ≤ 1114111 := by omega
      have g2 : ¬ (55296 : Int) ≤ (c : Int) := by omega
      have g0 : (0 : Int) ≤ (c : Int) := by omega
      have e : r = true := by rw [← HR.out]; simp [isCp, h1, h2]
      clear h1 h2 HR
      subst e
      go_enter Tryd.func91, Tryd.ntmps91
      go_wp2
      go_ret
      exact ⟨rfl, (by repeat (first | (with_reducible exact Below.refl _ _) | (with_reducible exact Below.refl _ _) | (with_reducible refine Below.setCell ?_ (by first | omega | (simp; done) | (simp; omega)) _) | (with_reducible refine Below.alloc ?_ (by first | omega | (simp; done) | (simp; omega)) _) | (with_reducible refine Below.drew ?_) | (with_reducible refine below_drewN ?_ _)))⟩
  · have g1 : ¬ (c : Int) ≤ 1114111 := by omega
    have g0 : (0 : Int) ≤ (c : Int) := by omega
    have e : r = false := by rw [← HR.out]; simp [isCp, h1]
    clear h1 HR
    subst e
    go_enter Tryd.func91, Tryd.ntmps91
    go_wp2
    go_ret
    exact ⟨rfl, (by repeat (first | (with_reducible exact Below.refl _ _) | (with_reducible exact Below.refl _ _) | (with_reducible refine Below.setCell ?_ (by first | omega | (simp; done) | (simp; omega)) _) | (with_reducible refine Below.alloc ?_ (by first | omega | (simp; done) | (simp; omega)) _) | (with_reducible refine Below.drew ?_) | (with_reducible refine below_drewN ?_ _)))⟩

set_option maxRecDepth 8000 in
set_option maxHeartbeats 2000000 in
theorem Tryd_rBytes (c : Nat) (w : World) (hc : c ≤ 1114111) : Calls Tryd.prog 92 #[.int .i64 (c : Int)] w fun e w' => OwnB w.heap.size (cpBytes c) e w' ∧ Below w.heap.size w w' := by
  obtain ⟨l, hl⟩ : ∃ l, cpBytes c = l := ⟨_, rfl⟩
  rw [hl]
  have HL := Lib.hid hl
  have HC := Lib.hid hc
  clear hl hc
  by_cases h1 : c < 128
  · have g1 : (c : Int) < 128 := by omega
    have hl : l = [UInt8.ofNat c] := by rw [← HL.out]; unfold cpBytes; rw [if_pos h1]
    have HU := Lib.hid (show [Value.int .u8 (c : Int)] = u8s l by rw [hl]; simp only [u8s, List.map_cons, List.map_nil, UInt8.toNat_ofNat', List.cons.injEq, Value.int.injEq, and_true, true_and]; omega)
    have HN := Lib.hid (show l.length = 1 by rw [hl]; rfl)
    clear h1 HL hl
    go_enter Tryd.func92, Tryd.ntmps92
    go_wp2
    go_ret
    rw [HU.out]
    refine ⟨⟨_, Nat.le_refl _, by rw [HN.out]; rfl, blk_bytes (Blk.new w (u8s l) 5) rfl (by rw [HN.out]; omega)⟩, (by repeat (first | (with_reducible exact Below.refl _ _) | (with_reducible exact Below.refl _ _) | (with_reducible refine Below.setCell ?_ (by first | omega | (simp; done) | (simp; omega)) _) | (with_reducible refine Below.alloc ?_ (by first | omega | (simp; done) | (simp; omega)) _) | (with_reducible refine Below.drew ?_) | (with_reducible refine below_drewN ?_ _)))⟩
  · have g1 : ¬ (c : Int) < 128 := by omega
    by_cases h2 : c < 2048
    · have g2 : (c : Int) < 2048 := by omega
      have hl : l = [UInt8.ofNat (192 + c / 64), UInt8.ofNat (128 + c % 64)] := by rw [← HL.out]; unfold cpBytes; rw [if_neg h1, if_pos h2]
      have HU := Lib.hid (show [Value.int .u8 (192 + (c : Int) / 64), Value.int .u8 (128 + (c : Int) % 64)] = u8s l by rw [hl]; simp only [u8s, List.map_cons, List.map_nil, UInt8.toNat_ofNat', List.cons.injEq, Value.int.injEq, and_true, true_and]; omega)
      have HN := Lib.hid (show l.length = 2 by rw [hl]; rfl)
      clear h1 h2 HL hl
      go_enter Tryd.func92, Tryd.ntmps92
      go_wp2
      go_ret
      rw [HU.out]
      refine ⟨⟨_, Nat.le_refl _, by rw [HN.out]; rfl, blk_bytes (Blk.new w (u8s l) 5) rfl (by rw [HN.out]; omega)⟩, (by repeat (first | (with_reducible exact Below.refl _ _) | (with_reducible exact Below.refl _ _) | (with_reducible refine Below.setCell ?_ (by first | omega | (simp; done) | (simp; omega)) _) | (with_reducible refine Below.alloc ?_ (by first | omega | (simp; done) | (simp; omega)) _) | (with_reducible refine Below.drew ?_) | (with_reducible refine below_drewN ?_ _)))⟩
    · have g2 : ¬ (c : Int) < 2048 := by omega
      by_cases h3 : c < 65536
      · have g3 : (c : Int) < 65536 := by omega
        have hl : l = [UInt8.ofNat (224 + c / 4096), UInt8.ofNat (128 + c / 64 % 64), UInt8.ofNat (128 + c % 64)] := by rw [← HL.out]; unfold cpBytes; rw [if_neg h1, if_neg h2, if_pos h3]
        have HU := Lib.hid (show [Value.int .u8 (224 + (c : Int) / 4096), Value.int .u8 (128 + (c : Int) / 64 % 64), Value.int .u8 (128 + (c : Int) % 64)] = u8s l by rw [hl]; simp only [u8s, List.map_cons, List.map_nil, UInt8.toNat_ofNat', List.cons.injEq, Value.int.injEq, and_true, true_and]; omega)
        have HN := Lib.hid (show l.length = 3 by rw [hl]; rfl)
        clear h1 h2 h3 HL hl
        go_enter Tryd.func92, Tryd.ntmps92
        go_wp2
        go_ret
        rw [HU.out]
        refine ⟨⟨_, Nat.le_refl _, by rw [HN.out]; rfl, blk_bytes (Blk.new w (u8s l) 5) rfl (by rw [HN.out]; omega)⟩, (by repeat (first | (with_reducible exact Below.refl _ _) | (with_reducible exact Below.refl _ _) | (with_reducible refine Below.setCell ?_ (by first | omega | (simp; done) | (simp; omega)) _) | (with_reducible refine Below.alloc ?_ (by first | omega | (simp; done) | (simp; omega)) _) | (with_reducible refine Below.drew ?_) | (with_reducible refine below_drewN ?_ _)))⟩
      · have g3 : ¬ (c : Int) < 65536 := by omega
        have hl : l = [UInt8.ofNat (240 + c / 262144), UInt8.ofNat (128 + c / 4096 % 64), UInt8.ofNat (128 + c / 64 % 64), UInt8.ofNat (128 + c % 64)] := by rw [← HL.out]; unfold cpBytes; rw [if_neg h1, if_neg h2, if_neg h3]
        have HU := Lib.hid (show [Value.int .u8 (240 + (c : Int) / 262144), Value.int .u8 (128 + (c : Int) / 4096 % 64), Value.int .u8 (128 + (c : Int) / 64 % 64), Value.int .u8 (128 + (c : Int) % 64)] = u8s l by rw [hl]; have := HC.out; simp only [u8s, List.map_cons, List.map_nil, UInt8.toNat_ofNat', List.cons.injEq, Value.int.injEq, and_true, true_and]; omega)
        have HN := Lib.hid (show l.length = 4 by rw [hl]; rfl)
        have hc := HC.out
        clear h1 h2 h3 HL hl
        go_enter Tryd.func92, Tryd.ntmps92
        go_wp2
        go_ret
        rw [HU.out]
        refine ⟨⟨_, Nat.le_refl _, by rw [HN.out]; rfl, blk_bytes (Blk.new w (u8s l) 5) rfl (by rw [HN.out]; omega)⟩, (by repeat (first | (with_reducible exact Below.refl _ _) | (with_reducible exact Below.refl _ _) | (with_reducible refine Below.setCell ?_ (by first | omega | (simp; done) | (simp; omega)) _) | (with_reducible refine Below.alloc ?_ (by first | omega | (simp; done) | (simp; omega)) _) | (with_reducible refine Below.drew ?_) | (with_reducible refine below_drewN ?_ _)))⟩

theorem startsB_zero (b : List UInt8) (x : List UInt8) : startsB b x = true ↔ x.length ≤ b.length ∧ ∀ i, i < x.length → b[i]? = x[i]? := by
  unfold startsB
  rw [decide_eq_true_eq]
  refine ⟨fun ⟨h1, h2⟩ => ⟨h1, fun i hi => ?_⟩, fun ⟨h1, h2⟩ => ⟨h1, ?_⟩⟩
  · conv => rhs; rw [← h2]
    rw [List.getElem?_take, if_pos hi]
  · apply List.ext_getElem?
    intro i
    rw [List.getElem?_take]
    by_cases hi : i < x.length
    · rw [if_pos hi]; exact h2 i hi
    · rw [if_neg hi, List.getElem?_eq_none (by omega)]

set_option maxRecDepth 8000 in
set_option maxHeartbeats 2000000 in
theorem Tryd_rStarts (ba xa : Option Addr) (bl bc xl xc : Nat) (b x : List UInt8) (w : World) (hb : BytesAt w ba bl bc b) (hx : BytesAt w xa xl xc x) :
    Calls Tryd.prog 93 #[.slice ba bl bc, .slice xa xl xc] w fun e w' => e = .returned (.bool (startsB b x)) ∧ Below w.heap.size w w' := by
  have HB := Lib.hid hb
  have HX := Lib.hid hx
  obtain ⟨r, hr⟩ : ∃ r, startsB b x = r := ⟨_, rfl⟩
  rw [hr]
  have hbl := hb.hlen
  have hxl := hx.hlen
  have hbf := hb.hfew
  have hxf := hx.hfew
  by_cases h1 : bl < xl
  · have g1 : (bl : Int) < (xl : Int) := by omega
    have e : r = false := by rw [← hr]; unfold startsB; rw [decide_eq_false_iff_not]; omega
    clear hr hb hx hbl hxl hbf hxf h1
    subst e
    go_enter Tryd.func93, Tryd.ntmps93
    go_wp2
    go_ret
    exact ⟨rfl, (by repeat (first | (with_reducible exact Below.refl _ _) | (with_reducible exact Below.refl _ _) | (with_reducible refine Below.setCell ?_ (by first | omega | (simp; done) | (simp; omega)) _) | (with_reducible refine Below.alloc ?_ (by first | omega | (simp; done) | (simp; omega)) _) | (with_reducible refine Below.drew ?_) | (with_reducible refine below_drewN ?_ _)))⟩
  · have g1 : ¬ (bl : Int) < (xl : Int) := by omega
    have HR := Lib.hid hr
    clear hr hb hx
    go_enter Tryd.func93, Tryd.ntmps93
    go_wp2_with fail
    go_loopw [5] (fun ix wr => ∃ i : Nat, i ≤ xl ∧ ix = .int .i64 (i : Int) ∧ Below w.heap.size w wr ∧ ∀ j, j < i → b[j]? = x[j]?) (fun ix _ => xl - (intOf ix).toNat)
    case atStart => exact ⟨0, Nat.zero_le _, by go_num, Below.refl _ _, fun j h => by omega⟩
    case round =>
      obtain ⟨i, hi, rfl, hbel, hall⟩ := hrel
      have HBE := Lib.hid hbel
      clear hbel
      by_cases hlt : i < xl
      · obtain ⟨u, hu⟩ : ∃ u, b[i]? = some u := ⟨_, List.getElem?_eq_getElem (by omega)⟩
        obtain ⟨v, hv⟩ : ∃ v, x[i]? = some v := ⟨_, List.getElem?_eq_getElem (by omega)⟩
        obtain ⟨bb, bo, rfl, hbb, hbcell⟩ := (HB.out.ext HBE.out).hat i u hu
        obtain ⟨xb, xo, rfl, hxb, hxcell⟩ := (HX.out.ext HBE.out).hat i v hv
        have g2 : (i : Int) < (xl : Int) := by omega
        have g3 : (i : Int) < (bl : Int) := by omega
        have HI := Lib.hid (show i < xl from hlt)
        have HALL := Lib.hid hall
        have HUV := Lib.hid (And.intro hu hv)
        by_cases huv : u = v
        · subst huv
          clear hall hlt hi hu hv
          go_wp2_with fail
          go_quiet (fail)
          go_wp2_with fail
          go_roundw
          case rel => exact ⟨i + 1, HI.out, by go_num, by have h := HBE.out; exact (by repeat (first | (with_reducible exact Below.refl _ _) | (with_reducible exact Below.refl _ _) | (with_reducible refine Below.setCell ?_ (by first | omega | (simp; done) | (simp; omega)) _) | (with_reducible refine Below.alloc ?_ (by first | omega | (simp; done) | (simp; omega)) _) | (with_reducible refine Below.drew ?_) | (with_reducible refine below_drewN ?_ _) | (with_reducible refine Below.trans ?_ (h.mono (by first | omega | (simp; done) | (simp; omega)))))), fun j hj => by
            by_cases hji : j < i
            · exact HALL.out j hji
            · have : j = i := by omega
              rw [this, HUV.out.1, HUV.out.2]⟩
          case measure => have := HI.out; simp [intOf]; omega
        · have hne : ((u.toNat : Int) == (v.toNat : Int)) = false := by
            rw [beq_eq_false_iff_ne]; intro e; apply huv; exact UInt8.toNat_inj.1 (by omega)
          have e : r = false := by
            cases hrr : r with
            | false => rfl
            | true =>
              have h := ((startsB_zero b x).1 (HR.out.trans hrr)).2 i (by omega)
              rw [hu, hv] at h
              exact absurd (Option.some.inj h) huv
          clear hall hlt hi hu hv huv HR
          subst e
          go_wp2_with fail
          go_quiet (fail)
          go_wp2
          go_ret
          exact ⟨rfl, by have h := HBE.out; exact (by repeat (first | (with_reducible exact Below.refl _ _) | (with_reducible exact Below.refl _ _) | (with_reducible refine Below.setCell ?_ (by first | omega | (simp; done) | (simp; omega)) _) | (with_reducible refine Below.alloc ?_ (by first | omega | (simp; done) | (simp; omega)) _) | (with_reducible refine Below.drew ?_) | (with_reducible refine below_drewN ?_ _) | (with_reducible refine Below.trans ?_ (h.mono (by first | omega | (simp; done) | (simp; omega))))))⟩
      · have g2 : ¬ (i : Int) < (xl : Int) := by omega
        have e : r = true := by
          rw [← HR.out]; exact (startsB_zero b x).2 ⟨by omega, fun j hj => hall j (by omega)⟩
        clear hall hlt HR hi
        subst e
        go_wp2
        go_ret
        exact ⟨rfl, by have h := HBE.out; exact (by repeat (first | (with_reducible exact Below.refl _ _) | (with_reducible exact Below.refl _ _) | (with_reducible refine Below.setCell ?_ (by first | omega | (simp; done) | (simp; omega)) _) | (with_reducible refine Below.alloc ?_ (by first | omega | (simp; done) | (simp; omega)) _) | (with_reducible refine Below.drew ?_) | (with_reducible refine below_drewN ?_ _) | (with_reducible refine Below.trans ?_ (h.mono (by first | omega | (simp; done) | (simp; omega))))))⟩
end Go.Proofs.YtmcmknndhppljaaDoor
