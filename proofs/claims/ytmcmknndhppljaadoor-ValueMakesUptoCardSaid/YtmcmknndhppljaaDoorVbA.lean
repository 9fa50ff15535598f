/-
  A region that draws its order: one set of facts, one for each operation, serves every order.
  Blocks of cells, each known whole: what a call, a new block, a store leaves of them.
  Small words of the walks.
  Files, in plain: bytes that stay, pieces that may be lost; what each operation makes of them.
  Slices of one-cell elements: what they hold; append to one that is full, or to a row of the call's own, from whatever slice.
-/
import Derived.StillTail
import Derived.Below
import Derived.KernelRfl
import Derived.WalkKit
import Derived.Deep.Draws
import Derived.Lib.Hide
import Derived.Laws.AppendOwn
import Derived.Deep.Upon
import Derived.Deep.MidRow
import Derived.Laws.OwnMore
import Derived.Tactics
import Derived.OwnWalk
namespace Go.Dav
set_option linter.unusedVariables false
set_option linter.unusedSimpArgs false
open Go Go.RowKit

/-- The operation, carried out in W, yields a value for which R holds, and a world that has only grown. -/
def Gives (P : Program) (o : Oper) (a : Act) (W : World) (R : Value → World → Prop) : Prop :=
  match (execOp a.eval o).run P W with
  | .ok (.value u) W' => Below W.heap.size W W' ∧ R u W'
  | .ok .skip W' => Below W.heap.size W W' ∧ R undef W'
  | .ok (.enter f args) W' => Below W.heap.size W W' ∧ Calls P f args W' (fun e W'' => ∃ v, e = .returned v ∧ Below W'.heap.size W' W'' ∧ R v W'')
  | _ => False

theorem ext_trans {a b c : World} (h : Below a.heap.size a b) (k : Below b.heap.size b c) : Below a.heap.size a c := h.trans (k.mono h.size)

theorem wp_of_gives {P : Program} {o : Oper} {a : Act} {W : World} {R : Value → World → Prop} {K : Act → World → Prop} {Q : Exit → Act → World → Prop}
    (h : Gives P o a W R) (hk : ∀ v W', Below W.heap.size W W' → R v W' → K (a.put o.dst v) W') : o.wp P a W K Q := by
  unfold Gives at h
  unfold Oper.wp
  generalize (execOp a.eval o).run P W = r at *
  cases r with
  | ok n w' =>
    cases n <;> simp only [Oper.upon] at h ⊢
    case value u => exact hk _ _ h.1 h.2
    case skip => exact hk _ _ h.1 h.2
    case enter f args =>
      refine h.2.mono fun e w'' ⟨v, he, hb, hr⟩ => ?_
      subst he
      exact hk _ _ (ext_trans h.1 hb) hr
  | halt x w' => cases h

theorem Gives.of_eval {P : Program} {o : Oper} {a a' : Act} {W : World} {R : Value → World → Prop} (h : Gives P o a W R) (he : execOp a'.eval o = execOp a.eval o) : Gives P o a' W R := by
  unfold Gives at *
  rwa [he]

section
variable {P : Program} {ops : Array Oper}

/-- The last of the first m operations that p picks and that write slot t. -/
def lastW (ops : Array Oper) (p : Nat → Bool) (t : Tmp) : Nat → Option Nat
  | 0 => none
  | m + 1 => if p m = true ∧ (ops[m]?).bind (·.dst) = some t then some m else lastW ops p t m

theorem lastW_some {p : Nat → Bool} {t : Tmp} : ∀ {m j : Nat}, lastW ops p t m = some j → j < m ∧ p j = true ∧ (ops[j]?).bind (·.dst) = some t ∧ ∀ k, j < k → k < m → ¬ (p k = true ∧ (ops[k]?).bind (·.dst) = some t)
  | 0, _, h => by cases h
  | m + 1, j, h => by
    unfold lastW at h
    split at h
    · rename_i hp
      obtain rfl : m = j := by simpa using h
      exact ⟨by omega, hp.1, hp.2, fun k h1 h2 => by omega⟩
    · rename_i hp
      obtain ⟨h1, h2, h3, h4⟩ := lastW_some h
      refine ⟨by omega, h2, h3, fun k hk hk' => ?_⟩
      by_cases e : k = m
      · subst e; exact hp
      · exact h4 k hk (by omega)

theorem lastW_none {p : Nat → Bool} {t : Tmp} : ∀ {m : Nat}, lastW ops p t m = none → ∀ k, k < m → ¬ (p k = true ∧ (ops[k]?).bind (·.dst) = some t)
  | 0, _, k, hk => by omega
  | m + 1, h, k, hk => by
    unfold lastW at h
    split at h
    · cases h
    · rename_i hp
      by_cases e : k = m
      · subst e; exact hp
      · exact lastW_none h k (by omega)

theorem lastW_eq {p q : Nat → Bool} {t : Tmp} {m n : Nat}
    (h : ∀ j, (j < m ∧ p j = true ∧ (ops[j]?).bind (·.dst) = some t) ↔ (j < n ∧ q j = true ∧ (ops[j]?).bind (·.dst) = some t)) : lastW ops p t m = lastW ops q t n := by
  cases h1 : lastW ops p t m with
  | none =>
    cases h2 : lastW ops q t n with
    | none => rfl
    | some j =>
      obtain ⟨a1, a2, a3, _⟩ := lastW_some h2
      obtain ⟨b1, b2, b3⟩ := (h j).2 ⟨a1, a2, a3⟩
      exact absurd ⟨b2, b3⟩ (lastW_none h1 j b1)
  | some i =>
    obtain ⟨a1, a2, a3, a4⟩ := lastW_some h1
    obtain ⟨b1, b2, b3⟩ := (h i).1 ⟨a1, a2, a3⟩
    cases h2 : lastW ops q t n with
    | none => exact absurd ⟨b2, b3⟩ (lastW_none h2 i b1)
    | some j =>
      obtain ⟨c1, c2, c3, c4⟩ := lastW_some h2
      obtain ⟨d1, d2, d3⟩ := (h j).2 ⟨c1, c2, c3⟩
      congr 1
      rcases Nat.lt_trichotomy i j with hl | hl | hl
      · exact absurd ⟨d2, d3⟩ (a4 j hl d1)
      · exact hl
      · exact absurd ⟨b2, b3⟩ (c4 i hl b1)

/-- What slot t holds once the operations that p picks, of the first m, have laid their values. -/
def slotOf (ops : Array Oper) (p : Nat → Bool) (vs : Nat → Value) (a : Act) (m : Nat) (t : Tmp) : Option Value :=
  match lastW ops p t m with
  | none => a.tmps[t]?
  | some j => if t < a.tmps.size then some (vs j) else none

/-- The first m operations' values, laid in the order of the text. -/
def lay (ops : Array Oper) (vs : Nat → Value) (a : Act) : Nat → Act
  | 0 => a
  | m + 1 => (lay ops vs a m).put ((ops[m]?).bind (·.dst)) (vs m)

theorem put_size (a : Act) (d : Option Tmp) (v : Value) : (a.put d v).tmps.size = a.tmps.size := by
  cases d <;> simp [Act.put]
theorem put_defers (a : Act) (d : Option Tmp) (v : Value) : (a.put d v).defers = a.defers := by
  cases d <;> rfl
theorem put_get (a : Act) (d : Option Tmp) (v : Value) (t : Tmp) : (a.put d v).tmps[t]? = if d = some t then (if t < a.tmps.size then some v else none) else a.tmps[t]? := by
  cases d with
  | none => simp [Act.put]
  | some e =>
    by_cases h : e = t
    · subst h; simp [Act.put, Array.getElem?_setIfInBounds]
    · simp [Act.put, h, Array.getElem?_setIfInBounds_ne h]

theorem lay_size (vs : Nat → Value) (a : Act) : ∀ m, (lay ops vs a m).tmps.size = a.tmps.size
  | 0 => rfl
  | m + 1 => by rw [lay, put_size, lay_size vs a m]
theorem lay_defers (vs : Nat → Value) (a : Act) : ∀ m, (lay ops vs a m).defers = a.defers
  | 0 => rfl
  | m + 1 => by rw [lay, put_defers, lay_defers vs a m]
theorem lay_get (vs : Nat → Value) (a : Act) (t : Tmp) : ∀ m : Nat, (lay ops vs a m).tmps[t]? = slotOf ops (fun _ => true) vs a m t
  | 0 => rfl
  | m + 1 => by
    rw [lay, put_get, lay_size]
    unfold slotOf lastW
    by_cases h : (ops[m]?).bind (·.dst) = some t
    · simp [h]
    · simp only [h, and_false, if_false]; exact lay_get vs a t m

theorem act_ext {a b : Act} (h : ∀ t : Nat, a.tmps[t]? = b.tmps[t]?) (hd : a.defers = b.defers) : a = b := by
  cases a; cases b
  simp only at h hd
  rw [Array.ext_getElem? h, hd]

theorem eval_congr {a b : Act} {l : List Tmp} (h : ∀ t ∈ l, a.tmps[t]? = b.tmps[t]?) (x : Operand) (hx : ∀ t, x = .tmp t → t ∈ l) : a.eval x = b.eval x := by
  cases x with
  | tmp t => have := h t (hx t rfl); simp [Act.eval, Array.getD_eq_getD_getElem?, this]
  | _ => rfl

theorem exec_congr {a b : Act} {o : Oper} (hs : ∀ cs t, o.op ≠ .select cs t) (h : ∀ t ∈ o.looksAt ops, a.tmps[t]? = b.tmps[t]?) : execOp a.eval o = execOp b.eval o :=
  execOp_congr o hs fun x hx => eval_congr h x fun t ht => by
    unfold Oper.looksAt
    refine List.mem_append_left _ (List.mem_filterMap.2 ⟨x, by simpa using hx, by rw [ht]⟩)

theorem wanted_congr {a b : Act} {o : Oper} (h : ∀ t ∈ o.looksAt ops, a.tmps[t]? = b.tmps[t]?) : Region.wanted o (yielded ops a.tmps) = Region.wanted o (yielded ops b.tmps) := by
  unfold Region.wanted
  cases hg : o.guard with
  | none => rfl
  | some g =>
    obtain ⟨j, want⟩ := g
    simp only
    congr 1
    unfold yielded
    cases hd : (ops[j]?).bind (·.dst) with
    | none => rfl
    | some d =>
      simp only [Option.bind_some]
      rw [h d (by unfold Oper.looksAt; refine List.mem_append_right _ ?_; simp [hg, hd])]

/-- What is laid of an operation: a known value, or what holds of it. -/
def holdsOf : Value ⊕ (Value → World → Prop) → Value → World → Prop
  | .inl v, u, _ => u = v
  | .inr R, u, W => R u W

/-- The slots that an operation looks at, each written by none of the others, or by one that it waits for (or that waits for it). -/
def tidyB (ops : Array Oper) (n : Nat) : Bool :=
  (List.range n).all fun i => (List.range n).all fun j =>
    match ops[i]?, ops[j]? with
    | some oi, some oj => match oj.dst with
      | none => true
      | some d =>
        if i = j then !(oi.looksAt ops).contains d
        else if (oi.looksAt ops).contains d || oi.dst == some d then (if i < j then Region.waitsFor .any ops j i else Region.waitsFor .any ops i j) else true
    | _, _ => false

/-- Operations wait for earlier ones alone. -/
def backB (ops : Array Oper) (n : Nat) : Bool :=
  (List.range n).all fun i => match ops[i]? with
    | some o => o.after.all fun e => !Region.binds .any e || decide (e.on < i)
    | none => false

/-- All that the theorem asks of the region itself. -/
def partsB (ops : Array Oper) (n : Nat) : Bool :=
  Region.noSelect ops && tidyB ops n && backB ops n && decide (n ≤ ops.size) && (decide (n = ops.size) || (Region.sinkB .any ops n && Region.chainB .any ops n)) &&
    Region.seqB .any ops (ops.size - n) n ((Array.range ops.size).map fun j => decide (j < n))

end
section
variable {P : Program} {ops : Array Oper}

theorem tidy_spec {n : Nat} (h : tidyB ops n = true) {i j : Nat} {oi oj : Oper} {d : Tmp} (hi : i < n) (hj : j < n) (hoi : ops[i]? = some oi) (hoj : ops[j]? = some oj) (hd : oj.dst = some d)
    (hl : d ∈ oi.looksAt ops ∨ (oi.dst = some d ∧ i ≠ j)) : i ≠ j ∧ (i < j → Region.waitsFor .any ops j i = true) ∧ (j < i → Region.waitsFor .any ops i j = true) := by
  have h1 := List.all_eq_true.1 (List.all_eq_true.1 h i (List.mem_range.2 hi)) j (List.mem_range.2 hj)
  simp only [hoi, hoj, hd] at h1
  by_cases e : i = j
  · subst e
    simp only [if_true] at h1
    rcases hl with hl | ⟨_, hl⟩
    · simp [hl] at h1
    · exact absurd rfl hl
  · have hc : ((oi.looksAt ops).contains d || oi.dst == some d) = true := by
      rcases hl with hl | ⟨hl, _⟩
      · simp [hl]
      · simp [hl]
    simp only [e, if_false, hc, if_true] at h1
    refine ⟨e, fun hlt => by simpa [hlt] using h1, fun hlt => ?_⟩
    have : ¬ i < j := by omega
    simpa [this] using h1

/-- What holds at any point while the first n operations are carried out: 'listed' have been. -/
structure Mid (ops : Array Oper) (n : Nat) (ps : Nat → Value ⊕ (Value → World → Prop)) (a0 : Act) (w0 : World) (listed : Array Bool) (vs : Nat → Value) (a : Act) (W : World) : Prop where
  ext : Below w0.heap.size w0 W
  size : a.tmps.size = a0.tmps.size
  defers : a.defers = a0.defers
  slots : ∀ t : Nat, a.tmps[t]? = slotOf ops (fun j => listed.getD j false) vs a0 n t
  held : ∀ j, j < n → listed.getD j false = true → holdsOf (ps j) (vs j) W

/-- The facts that operation i may use: of the operations whose slots it looks at. -/
def depsHold (ops : Array Oper) (ps : Nat → Value ⊕ (Value → World → Prop)) (vs : Nat → Value) (o : Oper) (W : World) : Nat → Prop
  | 0 => True
  | m + 1 => (match (ops[m]?).bind (·.dst) with
      | none => True
      | some d => if (o.looksAt ops).contains d then holdsOf (ps m) (vs m) W else True) ∧ depsHold ops ps vs o W m

theorem depsHold_of {ps : Nat → Value ⊕ (Value → World → Prop)} {vs : Nat → Value} {o : Oper} {W : World} : ∀ m, (∀ j d, j < m → (ops[j]?).bind (·.dst) = some d → d ∈ o.looksAt ops → holdsOf (ps j) (vs j) W) → depsHold ops ps vs o W m
  | 0, _ => trivial
  | m + 1, h => by
    refine ⟨?_, depsHold_of m fun j d hj => h j d (by omega)⟩
    split
    · trivial
    · rename_i d hd
      split
      · rename_i hc
        exact h m d (by omega) hd (by simpa using hc)
      · trivial

/-- What is asked of operation i: in every later world in which the facts of what it looks at hold. -/
def stepFor (P : Program) (ops : Array Oper) (ps : Nat → Value ⊕ (Value → World → Prop)) (a0 : Act) (w0 : World) (vs : Nat → Value) (i : Nat) : Prop :=
  match ops[i]? with
  | none => True
  | some o => ∀ W, Below w0.heap.size w0 W → depsHold ops ps vs o W i →
      if Region.wanted o (yielded ops (lay ops vs a0 i).tmps) then Gives P o (lay ops vs a0 i) W (holdsOf (ps i)) else holdsOf (ps i) undef W

/-- All that stands behind: once all have been carried out. -/
def allHold (ps : Nat → Value ⊕ (Value → World → Prop)) (vs : Nat → Value) (W : World) : Nat → Prop
  | 0 => True
  | m + 1 => holdsOf (ps m) (vs m) W ∧ allHold ps vs W m

theorem allHold_of {ps : Nat → Value ⊕ (Value → World → Prop)} {vs : Nat → Value} {W : World} : ∀ m, (∀ j, j < m → holdsOf (ps j) (vs j) W) → allHold ps vs W m
  | 0, _ => trivial
  | m + 1, h => ⟨h m (by omega), allHold_of m fun j hj => h j (by omega)⟩

theorem mid_step {n : Nat} {ps : Nat → Value ⊕ (Value → World → Prop)} {a0 : Act} {w0 : World} {listed : Array Bool} {vs : Nat → Value} {a : Act} {W : World} {Q : Exit → Act → World → Prop}
    (hB : tidyB ops n = true) (hsel : Region.noSelect ops = true) (hst : ∀ j R, ps j = .inr R → ∀ v W W', R v W → Below W.heap.size W W' → R v W')
    (hop : ∀ vs i, i < n → stepFor P ops ps a0 w0 vs i) (inv : HeadInv .any ops n listed) (mid : Mid ops n ps a0 w0 listed vs a W)
    {i : Nat} (hr : i ∈ Region.ready .any ops listed) (hin : i < n) {K : Act → World → Prop}
    (hk : ∀ vs a W, HeadInv .any ops n (listed.setIfInBounds i true) → Mid ops n ps a0 w0 (listed.setIfInBounds i true) vs a W → K a W) : wpOp P ops Q i K a W := by
  obtain ⟨hun, oi, hoi, hall⟩ := mem_ready.1 hr
  have hunf : listed.getD i false = false := getD_both hun
  have hisz : i < listed.size := by rw [inv.size]; exact (Array.getElem?_eq_some_iff.1 hoi).1
  -- what a listed operation has to do with i
  have later : ∀ j oj d, j < n → ops[j]? = some oj → oj.dst = some d → listed.getD j false = true → (d ∈ oi.looksAt ops ∨ oi.dst = some d) → j < i := by
    intro j oj d hj hoj hd hl hlook
    have hji : i ≠ j := fun e => by subst e; rw [hunf] at hl; cases hl
    obtain ⟨_, h1, _⟩ := tidy_spec hB hin hj hoi hoj hd (hlook.imp id fun h => ⟨h, hji⟩)
    rcases Nat.lt_trichotomy i j with h | h | h
    · obtain ⟨oj', hoj', e, he, hb, hon⟩ := Region.waitsFor_spec (h1 h)
      have := inv.closed j oj' hoj' hl e he hb
      rw [hon, hunf] at this
      cases this
    · exact absurd h hji
    · exact h
  have early : ∀ j oj d, j < i → ops[j]? = some oj → oj.dst = some d → (d ∈ oi.looksAt ops) → listed.getD j false = true := by
    intro j oj d hj hoj hd hlook
    obtain ⟨_, _, h2⟩ := tidy_spec hB hin (by omega) hoi hoj hd (.inl hlook)
    obtain ⟨oi', hoi', e, he, hb, hon⟩ := Region.waitsFor_spec (h2 hj)
    have : oi' = oi := Option.some.inj (hoi'.symm.trans hoi)
    subst this
    have := hall e he hb
    rwa [hon] at this
  have looks : ∀ t ∈ oi.looksAt ops, (lay ops vs a0 i).tmps[t]? = a.tmps[t]? := by
    intro t ht
    rw [lay_get, mid.slots t]
    unfold slotOf
    rw [lastW_eq (ops := ops) (t := t) (p := fun _ => true) (q := fun j => listed.getD j false) (m := i) (n := n) ?_]
    intro j
    constructor
    · rintro ⟨h1, _, h3⟩
      obtain ⟨oj, hoj, hd⟩ := Option.bind_eq_some_iff.1 h3
      exact ⟨by omega, early j oj t h1 hoj hd ht, h3⟩
    · rintro ⟨h1, h2, h3⟩
      obtain ⟨oj, hoj, hd⟩ := Option.bind_eq_some_iff.1 h3
      exact ⟨later j oj t h1 hoj hd h2 (.inl ht), rfl, h3⟩
  have hdeps : depsHold ops ps vs oi W i := depsHold_of i fun j d hj hd hl => by
    obtain ⟨oj, hoj, hd'⟩ := Option.bind_eq_some_iff.1 hd
    exact mid.held j (by omega) (early j oj d hj hoj hd' hl)
  have hs := hop vs i hin
  unfold stepFor at hs
  simp only [hoi] at hs
  have hs := hs W mid.ext hdeps
  rw [wanted_congr looks] at hs
  have next : ∀ v W', Below W.heap.size W W' → holdsOf (ps i) v W' → K (a.put oi.dst v) W' := by
    intro v W' hb hv
    refine hk (fun j => if j = i then v else vs j) _ W' (inv.set hr hin) ⟨ext_trans mid.ext hb, by rw [put_size, mid.size], by rw [put_defers, mid.defers], fun t => ?_, fun j hj hl => ?_⟩
    · rw [put_get, mid.size]
      unfold slotOf
      by_cases hd : oi.dst = some t
      · simp only [hd, if_true]
        have : lastW ops (fun j => (listed.setIfInBounds i true).getD j false) t n = some i := by
          cases hc : lastW ops (fun j => (listed.setIfInBounds i true).getD j false) t n with
          | none => exact absurd ⟨by simp [hisz], by simp [hoi, hd]⟩ (lastW_none hc i hin)
          | some j =>
            obtain ⟨c1, c2, c3, c4⟩ := lastW_some hc
            obtain ⟨oj, hoj, hdj⟩ := Option.bind_eq_some_iff.1 c3
            by_cases e : j = i
            · rw [e]
            · have hlj : listed.getD j false = true := by rwa [getD_set_ne false (Ne.symm e)] at c2
              have := later j oj t c1 hoj hdj hlj (.inr hd)
              exact absurd ⟨by simp [hisz], by simp [hoi, hd]⟩ (c4 i this hin)
        rw [this]
        simp
      · simp only [hd, if_false]
        rw [mid.slots t]
        unfold slotOf
        have : lastW ops (fun j => (listed.setIfInBounds i true).getD j false) t n = lastW ops (fun j => listed.getD j false) t n := by
          refine lastW_eq fun j => ?_
          by_cases e : j = i
          · subst e; simp [hoi, hd]
          · rw [getD_set_ne false (Ne.symm e)]
        rw [this]
        cases hc : lastW ops (fun j => listed.getD j false) t n with
        | none => rfl
        | some j =>
          obtain ⟨c1, c2, c3, c4⟩ := lastW_some hc
          have e : j ≠ i := fun e => by subst e; simp [hoi, hd] at c3
          simp [e]
    · by_cases e : j = i
      · subst e; simpa using hv
      · simp only [e, if_false]
        have hl' : listed.getD j false = true := by rwa [getD_set_ne false (Ne.symm e)] at hl
        have h1 := mid.held j hj hl'
        cases hp : ps j with
        | inl u => simpa [hp, holdsOf] using h1
        | inr R => simp only [hp, holdsOf] at h1 ⊢; exact hst j R hp _ _ _ h1 hb
  unfold wpOp
  simp only [hoi]
  split
  · rename_i hw
    simp only [hw, if_true] at hs
    exact .inl (wp_of_gives (hs.of_eval (exec_congr (fun cs b => Region.noSelect_spec hsel i oi cs b hoi) (fun t ht => (looks t ht).symm))) next)
  · rename_i hw
    simp only [hw] at hs
    exact next _ _ (Below.refl _ _) (by simpa using hs)


def cnt (listed : Array Bool) : Nat → Nat
  | 0 => 0
  | m + 1 => cnt listed m + if listed.getD m false then 0 else 1

theorem cnt_far (listed : Array Bool) (i : Nat) : ∀ m, m ≤ i → cnt (listed.setIfInBounds i true) m = cnt listed m
  | 0, _ => rfl
  | m + 1, h => by rw [cnt, cnt, cnt_far listed i m (by omega), getD_set_ne false (show i ≠ m by omega)]

theorem cnt_set (listed : Array Bool) (i : Nat) (hi : i < listed.size) (hu : listed.getD i false = false) : ∀ m, i < m → cnt (listed.setIfInBounds i true) m + 1 = cnt listed m
  | 0, h => by omega
  | m + 1, h => by
    rw [cnt, cnt]
    by_cases e : i = m
    · subst e; rw [cnt_far _ _ _ (Nat.le_refl _), hu]; simp [hi]
    · have := cnt_set listed i hi hu m (by omega)
      rw [getD_set_ne false e]; omega

theorem cnt_zero (listed : Array Bool) : ∀ m, cnt listed m = 0 → ∀ j, j < m → listed.getD j false = true
  | 0, _, j, h => by omega
  | m + 1, h, j, hj => by
    rw [cnt] at h
    by_cases e : j = m
    · subst e
      cases hl : listed.getD j false with
      | true => rfl
      | false => simp [hl] at h
    · exact cnt_zero listed m (by omega) j (by omega)

theorem least_unlisted (listed : Array Bool) : ∀ m, cnt listed m ≠ 0 → ∃ i, i < m ∧ listed.getD i false = false ∧ ∀ k, k < i → listed.getD k false = true
  | 0, h => absurd rfl h
  | m + 1, h => by
    by_cases e : cnt listed m = 0
    · rw [cnt, e] at h
      refine ⟨m, by omega, ?_, cnt_zero listed m e⟩
      cases hl : listed.getD m false with
      | true => simp [hl] at h
      | false => rfl
    · obtain ⟨i, h1, h2, h3⟩ := least_unlisted listed m e
      exact ⟨i, by omega, h2, h3⟩

theorem wpAny_of_mid {n : Nat} {ps : Nat → Value ⊕ (Value → World → Prop)} {a0 : Act} {w0 : World} {Q : Exit → Act → World → Prop} {l : List Oper}
    (hl : ∀ j : Nat, l[j]? = ops[n + j]?) (hll : l.length = ops.size - n)
    (hB : partsB ops n = true) (hst : ∀ j R, ps j = .inr R → ∀ v W W', R v W → Below W.heap.size W W' → R v W')
    (hop : ∀ vs i, i < n → stepFor P ops ps a0 w0 vs i)
    (hend : ∀ vs W, Below w0.heap.size w0 W → allHold ps vs W n → wpList P ops Q l (lay ops vs a0 n) W) :
    ∀ (f : Nat) (listed : Array Bool) (vs : Nat → Value) (a : Act) (W : World), HeadInv .any ops n listed → Mid ops n ps a0 w0 listed vs a W → cnt listed n = f →
      wpAny P .any ops Q (f + (ops.size - n)) listed a W := by
  simp only [partsB, Bool.and_eq_true, decide_eq_true_eq] at hB
  obtain ⟨⟨⟨⟨⟨hsel, htidy⟩, hback⟩, hn⟩, htail0⟩, hseq⟩ := hB
  have htail : n = ops.size ∨ (Region.sinkB .any ops n = true ∧ Region.chainB .any ops n = true) := by simpa using htail0
  intro f
  induction f with
  | zero =>
    intro listed vs a W inv mid hc
    have hall := cnt_zero listed n hc
    have hlisted : listed = (Array.range ops.size).map fun j => decide (j < n) := by
      apply Array.ext
      · simp [inv.size]
      · intro j h1 h2
        simp only [Array.getElem_map, Array.getElem_range]
        by_cases hj : j < n
        · have := hall j hj
          simp only [h1, Array.getD_eq_getD_getElem?, Array.getElem?_eq_getElem, Option.getD_some] at this
          simp [hj, this]
        · have := getD_both (inv.tail j (by omega) (by simpa using h2))
          simp only [h1, Array.getD_eq_getD_getElem?, Array.getElem?_eq_getElem, Option.getD_some] at this
          simp [hj, this]
    have ha : a = lay ops vs a0 n := act_ext (fun t => by
      rw [lay_get, mid.slots t]
      unfold slotOf
      rw [lastW_eq (ops := ops) (t := t) (p := fun j => listed.getD j false) (q := fun _ => true) (m := n) (n := n) ?_]
      intro j
      constructor
      · rintro ⟨h1, _, h3⟩; exact ⟨h1, rfl, h3⟩
      · rintro ⟨h1, _, h3⟩; exact ⟨h1, hall j h1, h3⟩) (by rw [mid.defers, lay_defers])
    have h := hend vs W mid.ext (allHold_of n fun j hj => mid.held j hj (hall j hj))
    rw [Nat.zero_add, ← hll]
    rw [← hlisted, ← hll] at hseq
    rw [ha]
    exact wpAny_of_seq l n listed _ W hl hseq h
  | succ f ih =>
    intro listed vs a W inv mid hc
    obtain ⟨i0, hi0, hu0, hlow⟩ := least_unlisted listed n (by omega)
    rw [show f + 1 + (ops.size - n) = (f + (ops.size - n)) + 1 by omega]
    refine ⟨fun h => ?_, fun i hi => ?_⟩
    · exfalso
      have h1 := List.all_eq_true.1 hback i0 (List.mem_range.2 hi0)
      cases ho : ops[i0]? with
      | none => simp [ho] at h1
      | some o =>
        simp only [ho] at h1
        have : i0 ∈ Region.ready .any ops listed := by
          refine mem_ready.2 ⟨getD_in (by rw [inv.size]; omega) hu0, o, ho, fun e he hb => ?_⟩
          have h2 := Array.all_eq_true'.1 h1 e he
          simp only [hb, Bool.not_true, Bool.false_or, decide_eq_true_eq] at h2
          exact hlow e.on h2
        rw [h] at this
        cases this
    · have hin : i < n := by
        rcases Nat.lt_or_ge i n with h | h
        · exact h
        · rcases htail with ht | ht
          · obtain ⟨_, o, ho, _⟩ := mem_ready.1 hi
            have := (Array.getElem?_eq_some_iff.1 ho).1
            omega
          · rcases Nat.lt_or_ge n ops.size with hns | hns
            · exact absurd hi (tail_waits ht.1 ht.2 hns inv _ i0 rfl hi0 (getD_in (by rw [inv.size]; omega) hu0) i h)
            · obtain ⟨_, o, ho, _⟩ := mem_ready.1 hi
              have := (Array.getElem?_eq_some_iff.1 ho).1
              omega
      have hun := (mem_ready.1 hi).1
      refine mid_step htidy hsel hst hop inv mid hi hin fun vs' a' W' inv' mid' => ih _ vs' a' W' inv' mid' ?_
      have := cnt_set listed i (by rw [inv.size]; omega) (getD_both hun) n hin
      omega

/-- **A region that draws its order.** Its first n operations yield, in whatever order, what 'ps' says of them, each in every later world, by the facts of the operations whose slots it looks at; what stands behind them comes in the order of the text. -/
theorem wp_region_parts {id : Nat} {ops : List Oper} {Q : Exit → Act → World → Prop} {a : Act} {w : World} (n : Nat) (ps : Nat → Value ⊕ (Value → World → Prop)) (hm : P.follows .mixedOrders = true) (hB : partsB ops.toArray n = true)
    (hst : ∀ j R, ps j = .inr R → ∀ v W W', R v W → Below W.heap.size W W' → R v W')
    (hop : ∀ vs i, i < n → stepFor P ops.toArray ps a w vs i)
    (hend : ∀ vs W, Below w.heap.size w W → allHold ps vs W n → wpList P ops.toArray Q (ops.drop n) (lay ops.toArray vs a n) W) : (Code.region id ops.toArray true).wp P Q a w := by
  have hn : n ≤ ops.toArray.size := by
    simp only [partsB, Bool.and_eq_true, decide_eq_true_eq] at hB
    exact hB.1.1.2
  have he : Below w.heap.size w { w with drawn := w.drawn + 1 } := (Below.refl _ _).drew
  have hc : ∀ m, cnt (Array.replicate ops.toArray.size false) m = m := fun m => by
    induction m with
    | zero => rfl
    | succ m ih => rw [cnt, ih, getD_replicate_false]; rfl
  refine wp_region_any hm ?_
  have := wpAny_of_mid (P := P) (ops := ops.toArray) (l := ops.drop n) (fun j => by simp [List.getElem?_drop]) (by simp) hB hst hop hend n (Array.replicate ops.toArray.size false) (fun _ => undef) a { w with drawn := w.drawn + 1 }
    ⟨by simp, fun j oj _ hl => (by rw [getD_replicate_false] at hl; cases hl), fun t _ ht => getD_in (by simpa using ht) (getD_replicate_false _ _)⟩
    ⟨he, rfl, rfl, fun t => ?_, fun j _ hl => (by rw [getD_replicate_false] at hl; cases hl)⟩ (hc n)
  · rwa [show n + (ops.toArray.size - n) = ops.toArray.size by omega] at this
  · unfold slotOf
    rw [show lastW ops.toArray (fun j => (Array.replicate ops.toArray.size false).getD j false) t n = none from ?_]
    cases h : lastW ops.toArray (fun j => (Array.replicate ops.toArray.size false).getD j false) t n with
    | none => rfl
    | some j => have := (lastW_some h).2.1; rw [getD_replicate_false] at this; cases this

end

section
variable {P : Program}

abbrev Piece := Value ⊕ (Value → World → Prop)

/-- The facts, among those at hand, of the slots that an operation looks at. -/
def near (ops : Array Oper) (o : Oper) : List (Tmp × (World → Prop)) → World → Prop
  | [], _ => True
  | g :: G, W => if (o.looksAt ops).contains g.1 then g.2 W ∧ near ops o G W else near ops o G W

def every : List (Tmp × (World → Prop)) → World → Prop
  | [], _ => True
  | g :: G, W => g.2 W ∧ every G W

/-- The walk in the order of the text. -/
def wpParts (P : Program) (ops : Array Oper) (w : World) (Q : Exit → Act → World → Prop) : List Oper → List Piece → List (Tmp × (World → Prop)) → Act → Prop
  | o :: os, .inl v :: ps, G, a =>
    (if Region.wanted o (yielded ops a.tmps) then (∀ W, Below w.heap.size w W → near ops o G W → Gives P o a W (fun u _ => u = v)) else undef = v) ∧ wpParts P ops w Q os ps G (a.put o.dst v)
  | o :: os, .inr R :: ps, G, a =>
    ((∀ v W W', R v W → Below W.heap.size W W' → R v W') ∧ Region.wanted o (yielded ops a.tmps) = true ∧ (∀ W, Below w.heap.size w W → near ops o G W → Gives P o a W R)) ∧
      ∀ u, wpParts P ops w Q os ps (match o.dst with | some d => (d, R u) :: G | none => G) (a.put o.dst u)
  | os, _, G, a => ∀ W, Below w.heap.size w W → every G W → wpList P ops Q os a W

end

section
variable {P : Program} {ops : Array Oper}

theorem depsHold_get {ps : Nat → Piece} {vs : Nat → Value} {o : Oper} {W : World} : ∀ {m : Nat}, depsHold ops ps vs o W m → ∀ j d, j < m → (ops[j]?).bind (·.dst) = some d → d ∈ o.looksAt ops → holdsOf (ps j) (vs j) W
  | 0, _, j, _, hj, _, _ => by omega
  | m + 1, h, j, d, hj, hd, hl => by
    obtain ⟨h1, h2⟩ := h
    by_cases e : j = m
    · subst e
      rw [hd] at h1
      have hc : (o.looksAt ops).contains d = true := by simpa using hl
      simpa only [hc, if_true] using h1
    · exact depsHold_get h2 j d (by omega) hd hl

theorem allHold_get {ps : Nat → Piece} {vs : Nat → Value} {W : World} : ∀ {m : Nat}, allHold ps vs W m → ∀ j, j < m → holdsOf (ps j) (vs j) W
  | 0, _, j, hj => by omega
  | m + 1, h, j, hj => by
    by_cases e : j = m
    · subst e; exact h.1
    · exact allHold_get h.2 j (by omega)

/-- The values, those that are known put in. -/
def fixed (ps : Nat → Piece) (vs : Nat → Value) (i : Nat) : Value :=
  match ps i with
  | .inl v => v
  | .inr _ => vs i

theorem fixed_eq {ps : Nat → Piece} {vs : Nat → Value} {i : Nat} {W : World} (h : holdsOf (ps i) (vs i) W) : fixed ps vs i = vs i := by
  unfold fixed holdsOf at *
  split <;> rename_i h'
  · rw [h'] at h; exact h.symm
  · rfl

/-- The facts at hand behind the first k operations. -/
def facts (ops : Array Oper) (ps : Nat → Piece) (vs : Nat → Value) : Nat → List (Tmp × (World → Prop))
  | 0 => []
  | k + 1 => match ps k with
    | .inl _ => facts ops ps vs k
    | .inr R => match (ops[k]?).bind (·.dst) with
      | some d => (d, R (vs k)) :: facts ops ps vs k
      | none => facts ops ps vs k

theorem near_of {ps : Nat → Piece} {vs : Nat → Value} {o : Oper} {W : World} : ∀ {k : Nat}, depsHold ops ps vs o W k → near ops o (facts ops ps vs k) W
  | 0, _ => trivial
  | k + 1, h => by
    have ih := near_of h.2
    unfold facts
    cases hp : ps k with
    | inl v => exact ih
    | inr R =>
      simp only
      cases hd : (ops[k]?).bind (·.dst) with
      | none => exact ih
      | some d =>
        simp only [near]
        by_cases hl : d ∈ o.looksAt ops
        · have h1 := depsHold_get h k d (by omega) hd hl
          rw [hp] at h1
          rw [if_pos (by simpa using hl)]
          exact ⟨h1, ih⟩
        · rw [if_neg (by simpa using hl)]
          exact ih

theorem every_of {ps : Nat → Piece} {vs : Nat → Value} {W : World} : ∀ {k : Nat}, allHold ps vs W k → every (facts ops ps vs k) W
  | 0, _ => trivial
  | k + 1, h => by
    have ih := every_of h.2
    unfold facts
    cases hp : ps k with
    | inl v => exact ih
    | inr R =>
      simp only
      cases hd : (ops[k]?).bind (·.dst) with
      | none => exact ih
      | some d =>
        have h1 := h.1
        rw [hp] at h1
        exact ⟨h1, ih⟩

/-- What the walk in the order of the text says of each operation, and of what stands behind. -/
theorem parts_spec {w : World} {Q : Exit → Act → World → Prop} {a : Act} {qs : Nat → Piece} (vs : Nat → Value) :
    ∀ (l : List Oper) (ps : List Piece) (k : Nat), (∀ j : Nat, l[j]? = ops[k + j]?) → (∀ j p, ps[j]? = some p → qs (k + j) = p) → ps.length ≤ l.length →
      wpParts P ops w Q l ps (facts ops qs vs k) (lay ops (fixed qs vs) a k) →
      (∀ i, k ≤ i → i < k + ps.length → ∃ o, ops[i]? = some o ∧ ∀ W, Below w.heap.size w W → near ops o (facts ops qs vs i) W →
        (if Region.wanted o (yielded ops (lay ops (fixed qs vs) a i).tmps) then Gives P o (lay ops (fixed qs vs) a i) W (holdsOf (qs i)) else holdsOf (qs i) undef W)) ∧
      (∀ i R, k ≤ i → i < k + ps.length → qs i = .inr R → ∀ v W W', R v W → Below W.heap.size W W' → R v W') ∧
      (∀ W, Below w.heap.size w W → every (facts ops qs vs (k + ps.length)) W → wpList P ops Q (l.drop ps.length) (lay ops (fixed qs vs) a (k + ps.length)) W)
  | l, [], k, _, _, _, h => by
    refine ⟨fun i h1 h2 => ?_, fun i R h1 h2 => ?_, ?_⟩
    · simp at h2; omega
    · simp at h2; omega
    · cases l <;> simpa [wpParts] using h
  | [], _ :: _, _, _, _, hlen, _ => by simp at hlen
  | o :: l, p :: ps, k, hl, hq, hlen, h => by
    have h0 : ops[k]? = some o := by simpa using (hl 0).symm
    have hp : qs k = p := by simpa using hq 0 p rfl
    have hb : (ops[k]?).bind (·.dst) = o.dst := by rw [h0]; rfl
    have rest := fun (h' : wpParts P ops w Q l ps (facts ops qs vs (k + 1)) (lay ops (fixed qs vs) a (k + 1))) => parts_spec vs l ps (k + 1) (fun j => by have := hl (j + 1); simpa [Nat.add_assoc, Nat.add_comm 1 j] using this)
      (fun j q hj => by have := hq (j + 1) q (by simpa using hj); simpa [Nat.add_assoc, Nat.add_comm 1 j] using this) (by simpa using hlen) h'
    have key : wpParts P ops w Q l ps (facts ops qs vs (k + 1)) (lay ops (fixed qs vs) a (k + 1)) ∧
        (∀ R, p = .inr R → ∀ v W W', R v W → Below W.heap.size W W' → R v W') ∧
        ∀ W, Below w.heap.size w W → near ops o (facts ops qs vs k) W →
          (if Region.wanted o (yielded ops (lay ops (fixed qs vs) a k).tmps) then Gives P o (lay ops (fixed qs vs) a k) W (holdsOf p) else holdsOf p undef W) := by
      cases p with
      | inl v =>
        obtain ⟨h1, h2⟩ := h
        have e : fixed qs vs k = v := by unfold fixed; rw [hp]
        refine ⟨by rw [facts, hp, lay, hb, e]; exact h2, (fun R hR => by cases hR), fun W hW hn => ?_⟩
        split
        · rename_i hw; rw [if_pos hw] at h1; exact h1 W hW hn
        · rename_i hw; rw [if_neg hw] at h1; exact h1
      | inr R =>
        obtain ⟨⟨h1, h3, h4⟩, h2⟩ := h
        have e : fixed qs vs k = vs k := by unfold fixed; rw [hp]
        refine ⟨?_, (fun R' hR => by cases hR; exact h1), fun W hW hn => by rw [if_pos h3]; exact h4 W hW hn⟩
        have := h2 (vs k)
        rw [facts, hp, lay, hb, e]
        cases hd : o.dst <;> simpa [hd] using this
    obtain ⟨r1, r2, r3⟩ := rest key.1
    have hl' : k + (p :: ps).length = k + 1 + ps.length := by simp; omega
    refine ⟨fun i h1 h2 => ?_, fun i R h1 h2 hR => ?_, ?_⟩
    · by_cases e : i = k
      · subst e; exact ⟨o, h0, by rw [hp]; exact key.2.2⟩
      · exact r1 i (by omega) (by omega)
    · by_cases e : i = k
      · subst e; exact key.2.1 R (by rw [← hp, hR])
      · exact r2 i R (by omega) (by omega) hR
    · rw [hl']; simpa using r3

/-- **A region that draws its order**, walked in the order of the text: 'ps' says of each of its first operations what it yields. -/
theorem wp_region_seq {id : Nat} {l : List Oper} {Q : Exit → Act → World → Prop} {a : Act} {w : World} (ps : List Piece) (hm : P.follows .mixedOrders = true) (hB : partsB l.toArray ps.length = true)
    (h : wpParts P l.toArray w Q l ps [] a) : (Code.region id l.toArray true).wp P Q a w := by
  have hn : ps.length ≤ l.length := by
    simp only [partsB, Bool.and_eq_true, decide_eq_true_eq] at hB
    simpa using hB.1.1.2
  have spec := fun vs => parts_spec (P := P) (ops := l.toArray) (w := w) (Q := Q) (a := a) (qs := fun i => (ps[i]?).getD (.inl undef)) vs l ps 0 (fun j => by simp) (fun j p hj => by simp [hj]) hn h
  refine wp_region_parts ps.length (fun i => (ps[i]?).getD (.inl undef)) hm hB ?_ ?_ ?_
  · intro j R hj
    by_cases hlt : j < ps.length
    · exact (spec (fun _ => undef)).2.1 j R (by omega) (by omega) hj
    · have : ps[j]? = none := by simp; omega
      simp [this] at hj
  · intro vs i hi
    unfold stepFor
    obtain ⟨o, ho, hs⟩ := (spec vs).1 i (by omega) (by omega)
    rw [ho]
    intro W hW hd
    have hs := hs W hW (near_of hd)
    have looks : ∀ t ∈ o.looksAt l.toArray, (lay l.toArray (fixed (fun i => (ps[i]?).getD (.inl undef)) vs) a i).tmps[t]? = (lay l.toArray vs a i).tmps[t]? := by
      intro t ht
      rw [lay_get, lay_get]
      unfold slotOf
      cases hc : lastW l.toArray (fun _ => true) t i with
      | none => rfl
      | some j =>
        obtain ⟨c1, _, c3, _⟩ := lastW_some hc
        simp only
        rw [fixed_eq (depsHold_get hd j t c1 c3 ht)]
    rw [wanted_congr looks] at hs
    simp only
    split
    · rename_i hw; rw [if_pos hw] at hs
      refine hs.of_eval (exec_congr (fun cs b => Region.noSelect_spec (by simp only [partsB, Bool.and_eq_true] at hB; exact hB.1.1.1.1.1) i o cs b ho) (fun t ht => (looks t ht).symm))
    · rename_i hw; rw [if_neg hw] at hs; exact hs
  · intro vs W hW hall
    have := (spec vs).2.2 W hW (every_of (by simpa using hall))
    have e : lay l.toArray (fixed (fun i => (ps[i]?).getD (.inl undef)) vs) a ps.length = lay l.toArray vs a ps.length := act_ext (fun t => by
      rw [lay_get, lay_get]
      unfold slotOf
      cases hc : lastW l.toArray (fun _ => true) t ps.length with
      | none => rfl
      | some j =>
        obtain ⟨c1, _, _, _⟩ := lastW_some hc
        simp only
        rw [fixed_eq (allHold_get hall j c1)]) (by rw [lay_defers, lay_defers])
    rw [Nat.zero_add, e] at this
    exact this

end

section
variable {P : Program} {ops : Array Oper} {w : World} {Q : Exit → Act → World → Prop} {o : Oper} {os : List Oper} {ps : List Piece} {G : List (Tmp × (World → Prop))} {a : Act}

/-- One operation, whose value is known. -/
theorem wpParts_det {v : Value} (hw : Region.wanted o (yielded ops a.tmps) = true) (h : ∀ W, Below w.heap.size w W → near ops o G W → Gives P o a W (fun u _ => u = v))
    (hr : wpParts P ops w Q os ps G (a.put o.dst v)) : wpParts P ops w Q (o :: os) (.inl v :: ps) G a := by
  unfold wpParts
  rw [if_pos hw]
  exact ⟨h, hr⟩

/-- One operation that is passed over. -/
theorem wpParts_skip (hw : Region.wanted o (yielded ops a.tmps) = false) (hr : wpParts P ops w Q os ps G (a.put o.dst undef)) : wpParts P ops w Q (o :: os) (.inl undef :: ps) G a := by
  unfold wpParts
  rw [if_neg (by rw [hw]; exact Bool.false_ne_true)]
  exact ⟨rfl, hr⟩

/-- One operation of whose value something is known. -/
theorem wpParts_any {d : Tmp} {R : Value → World → Prop} (hd : o.dst = some d) (hst : ∀ v W W', R v W → Below W.heap.size W W' → R v W') (hw : Region.wanted o (yielded ops a.tmps) = true)
    (h : ∀ W, Below w.heap.size w W → near ops o G W → Gives P o a W R) (hr : ∀ u, wpParts P ops w Q os ps ((d, R u) :: G) (a.put (some d) u)) : wpParts P ops w Q (o :: os) (.inr R :: ps) G a := by
  unfold wpParts
  refine ⟨⟨hst, hw, h⟩, fun u => ?_⟩
  simp only [hd]
  exact hr u

theorem wpParts_end (h : ∀ W, Below w.heap.size w W → every G W → wpList P ops Q os a W) : wpParts P ops w Q os [] G a := by
  cases os <;> (unfold wpParts; exact h)

end

/-- Where two ways give a Bool each: one way, the test as a Bool. -/
theorem ite_val (p : Prop) [Decidable p] (W : World) (b : Bool) : (if p then (Result.ok (Next.value (.bool b)) W) else (Result.ok (Next.value (.bool false)) W)) = Result.ok (Next.value (.bool (decide p && b))) W := by
  by_cases h : p <;> simp [h]
theorem ite_val_true (p : Prop) [Decidable p] (W : World) : (if p then (Result.ok (Next.value (.bool true)) W) else (Result.ok (Next.value (.bool false)) W)) = Result.ok (Next.value (.bool (decide p))) W := by
  by_cases h : p <;> simp [h]
end Go.Dav

namespace Go.Dav
set_option linter.unusedVariables false
set_option linter.unusedSimpArgs false
open Go Go.RowKit

/-- Block p holds just these cells, and all of them may be written. -/
def Blk (W : World) (p : Nat) (cs : List Value) (t : TypeId) : Prop := W.heap[p]? = some (.cells cs.toArray t (0, 0))

theorem Blk.lt {W : World} {p : Nat} {cs : List Value} {t : TypeId} (h : Blk W p cs t) : p < W.heap.size := (Array.getElem?_eq_some_iff.1 h).1
theorem Blk.cell {W : World} {p : Nat} {cs : List Value} {t : TypeId} (h : Blk W p cs t) (i : Nat) {v : Value} (hi : cs[i]? = some v) : W.cell? ⟨p, i, none⟩ = some v := by
  unfold Blk at h
  simp [World.cell?, h, hi]
theorem Blk.frozen {W : World} {p : Nat} {cs : List Value} {t : TypeId} (h : Blk W p cs t) (i : Nat) : W.frozen? ⟨p, i, none⟩ = false := by
  unfold Blk at h
  simp [World.frozen?, h]
/-- All its cells, for the walk. -/
theorem Blk.cells {W : World} {p : Nat} {cs : List Value} {t : TypeId} (h : Blk W p cs t) : ∀ i, W.cell? ⟨p, i, none⟩ = cs[i]? := fun i => by
  unfold Blk at h
  simp [World.cell?, h]
theorem Blk.marks {W : World} {p : Nat} {cs : List Value} {t : TypeId} (h : Blk W p cs t) : ∀ i, W.frozen? ⟨p, i, none⟩ = false := fun i => h.frozen i
theorem Blk.below {W W' : World} {B p : Nat} {cs : List Value} {t : TypeId} (h : Blk W p cs t) (hb : Below B W W') (hp : p < B) : Blk W' p cs t := (hb.block p hp).trans h
theorem Blk.ext {W W' : World} {p : Nat} {cs : List Value} {t : TypeId} (h : Blk W p cs t) (hb : Below W.heap.size W W') : Blk W' p cs t := h.below hb h.lt
theorem Blk.new (W : World) (cs : List Value) (t : TypeId) : Blk (W.alloc (.cells cs.toArray t)) W.heap.size cs t := by
  unfold Blk World.alloc
  simp
theorem Blk.new' (W : World) (cs : List Value) (t : TypeId) {p : Nat} (h : W.heap.size = p) : Blk (W.alloc (.cells cs.toArray t)) p cs t := h ▸ Blk.new W cs t
theorem Blk.alloc {W : World} {p : Nat} {cs : List Value} {t : TypeId} (h : Blk W p cs t) (o : Obj) : Blk (W.alloc o) p cs t := (Below.heap_alloc W o p h.lt).trans h
theorem Blk.drew {W : World} {p : Nat} {cs : List Value} {t : TypeId} (h : Blk W p cs t) : Blk W.drew p cs t := h
theorem Blk.set {W : World} {p : Nat} {cs : List Value} {t : TypeId} (h : Blk W p cs t) (i : Nat) (v : Value) : Blk (W.setCell ⟨p, i, none⟩ v) p (cs.set i v) t := by
  have hlt := h.lt
  unfold Blk at *
  have : W.heap[p] = .cells cs.toArray t (0, 0) := (Array.getElem?_eq_some_iff.1 h).2
  simp [World.setCell, hlt, Array.getElem_modify, this]
theorem Blk.other {W : World} {p q : Nat} {cs : List Value} {t : TypeId} (h : Blk W p cs t) (hne : p ≠ q) (i : Nat) (v : Value) : Blk (W.setCell ⟨q, i, none⟩ v) p cs t :=
  (Below.heap_setCell W ⟨q, i, none⟩ v p hne).trans h

theorem cell_new_at (W : World) (cs : Array Value) (t : TypeId) {p : Nat} (h : p = W.heap.size) (j : Nat) : (W.alloc (.cells cs t)).cell? ⟨p, j, none⟩ = cs[j]? := by
  subst h
  have e : (W.alloc (.cells cs t)).heap[W.heap.size]? = some (.cells cs t) := by unfold World.alloc; simp
  unfold World.cell?
  simp only [e]
  rfl

/-- A new block, at B or beyond, and a value that points to it. -/
def NewBlk (B : Nat) (cs : List Value) (t : TypeId) (v : Value) (W : World) : Prop := ∃ p, v = .pointer (some ⟨p, 0, none⟩) ∧ B ≤ p ∧ Blk W p cs t
theorem NewBlk.later {B : Nat} {cs : List Value} {t : TypeId} : ∀ v W W', NewBlk B cs t v W → Below W.heap.size W W' → NewBlk B cs t v W' :=
  fun _ _ _ ⟨p, h1, h2, h3⟩ hb => ⟨p, h1, h2, h3.ext hb⟩
theorem newBlk_alloc {B : Nat} {cs : List Value} {t : TypeId} {W : World} (h : B ≤ W.heap.size) :
    Below W.heap.size W (W.alloc (.cells cs.toArray t)) ∧ NewBlk B cs t (.pointer (some ⟨W.heap.size, 0, none⟩)) (W.alloc (.cells cs.toArray t)) :=
  ⟨(Below.refl _ _).alloc (Nat.le_refl _) _, ⟨_, rfl, h, Blk.new _ _ _⟩⟩

/-- A pointer to offset o of some block, and what cell j of that block holds. -/
def CellIs (o j : Nat) (u v : Value) (W : World) : Prop := ∃ g, v = .pointer (some ⟨g, o, none⟩) ∧ W.cell? ⟨g, j, none⟩ = some u
theorem CellIs.later {o j : Nat} {u : Value} : ∀ v W W', CellIs o j u v W → Below W.heap.size W W' → CellIs o j u v W' :=
  fun _ _ _ ⟨g, h1, h2⟩ hb => ⟨g, h1, by rw [hb.cell (p := ⟨g, j, none⟩) (World.block_lt_of_cell? _ _ h2)]; exact h2⟩

theorem below_drewN {B : Nat} {w w' : World} (h : Below B w w') (n : Nat) : Below B w (w'.drewN n) := ⟨h.os, h.tape, h.output, h.size, h.block⟩
/-- Block p alone is written; new blocks may have come. -/
structure Only (p : Nat) (w w' : World) : Prop where
  os : w'.os = w.os
  tape : w'.tape = w.tape
  output : w'.output = w.output
  size : w.heap.size ≤ w'.heap.size
  block : ∀ k, k < w.heap.size → k ≠ p → w'.heap[k]? = w.heap[k]?
theorem Only.refl (p : Nat) (w : World) : Only p w w := ⟨rfl, rfl, rfl, Nat.le_refl _, fun _ _ _ => rfl⟩
theorem Only.set {p : Nat} {w w' : World} (h : Only p w w') (i : Nat) (v : Value) : Only p w (w'.setCell ⟨p, i, none⟩ v) :=
  ⟨h.os, h.tape, h.output, by simpa using h.size, fun k hk hne => (Below.heap_setCell w' ⟨p, i, none⟩ v k hne).trans (h.block k hk hne)⟩
theorem Only.alloc {p : Nat} {w w' : World} (h : Only p w w') (o : Obj) : Only p w (w'.alloc o) :=
  ⟨h.os, h.tape, h.output, by have := h.size; simp; omega, fun k hk hne => (Below.heap_alloc w' o k (Nat.lt_of_lt_of_le hk h.size)).trans (h.block k hk hne)⟩
theorem Only.drew {p : Nat} {w w' : World} (h : Only p w w') : Only p w w'.drew := ⟨h.os, h.tape, h.output, h.size, h.block⟩
theorem Only.ext {p : Nat} {w w' w'' : World} (h : Only p w w') (hb : Below w'.heap.size w' w'') : Only p w w'' :=
  ⟨hb.os.trans h.os, hb.tape.trans h.tape, hb.output.trans h.output, Nat.le_trans h.size hb.size, fun k hk hne => (hb.block k (Nat.lt_of_lt_of_le hk h.size)).trans (h.block k hk hne)⟩
theorem Only.trans {p : Nat} {w w' w'' : World} (h : Only p w w') (k : Only p w' w'') : Only p w w'' :=
  ⟨k.os.trans h.os, k.tape.trans h.tape, k.output.trans h.output, Nat.le_trans h.size k.size, fun i hi hne => (k.block i (Nat.lt_of_lt_of_le hi h.size) hne).trans (h.block i hi hne)⟩
theorem below_only {B p : Nat} {a w w' : World} (h : Below B a w) (k : Only p w w') (hs : B ≤ w.heap.size) (hp : B ≤ p) : Below B a w' :=
  ⟨k.os.trans h.os, k.tape.trans h.tape, k.output.trans h.output, Nat.le_trans h.size k.size, fun i hi => (k.block i (by omega) (by omega)).trans (h.block i hi)⟩
theorem Blk.only {W W' : World} {p q : Nat} {cs : List Value} {t : TypeId} (h : Blk W q cs t) (k : Only p W W') (hne : q ≠ p) : Blk W' q cs t := (k.block q h.lt hne).trans h
/-- What a call leaves of what lay there, for the walk. -/
theorem after {W W' : World} (hb : Below W.heap.size W W') : (∀ b o, b < W.heap.size → W'.cell? ⟨b, o, none⟩ = W.cell? ⟨b, o, none⟩) ∧ (∀ b o, b < W.heap.size → W'.frozen? ⟨b, o, none⟩ = W.frozen? ⟨b, o, none⟩) ∧ W.heap.size ≤ W'.heap.size :=
  ⟨fun b o h => hb.cell (p := ⟨b, o, none⟩) h, fun b o h => hb.frozen (p := ⟨b, o, none⟩) h, hb.size⟩
end Go.Dav

namespace Go.Dav
set_option linter.unusedVariables false
set_option linter.unusedSimpArgs false
open Go Go.RowKit
theorem ret_bool {a b : Bool} (h : a = b) : Ending.returned (.bool a) = .returned (.bool b) := by rw [h]
theorem ret_int {k : IntKind} {a b : Int} (h : a = b) : Ending.returned (.int k a) = .returned (.int k b) := by rw [h]
end Go.Dav

namespace Go.Dav
set_option linter.unusedVariables false
set_option linter.unusedSimpArgs false
open Go Go.RowKit

/-- Fits an int64. -/
def I64' (n : Int) : Prop := -9223372036854775808 ≤ n ∧ n ≤ 9223372036854775807

structure FileD where
  firm : List UInt8
  loose : List (List UInt8)
  fuse : Int
  fault : Int
  off : Bool

/-- How many bytes the first k pieces have. -/
def sumTo (L : List (List UInt8)) (k : Nat) : Nat := ((L.take k).map List.length).sum
theorem sumTo_zero (L : List (List UInt8)) : sumTo L 0 = 0 := by simp [sumTo]
theorem sumTo_succ {L : List (List UInt8)} {k : Nat} {p : List UInt8} (h : L[k]? = some p) : sumTo L (k + 1) = sumTo L k + p.length := by
  unfold sumTo
  rw [List.take_add_one, h]
  simp
def FileD.many (F : FileD) : Nat := F.firm.length + (F.loose.map List.length).sum
theorem sumTo_all (L : List (List UInt8)) : sumTo L L.length = (L.map List.length).sum := by simp [sumTo]
theorem sumTo_mono (L : List (List UInt8)) (k : Nat) : sumTo L k ≤ (L.map List.length).sum := by
  have h : (L.map List.length).sum = sumTo L k + ((L.drop k).map List.length).sum := by
    unfold sumTo; rw [← List.sum_append, ← List.map_append, List.take_append_drop]
  omega
def FileD.all (F : FileD) : List UInt8 := F.firm ++ F.loose.flatten
theorem FileD.all_length (F : FileD) : F.all.length = F.many := by simp [FileD.all, FileD.many, List.length_flatten]
/-- No piece is empty. -/
def FileD.full (F : FileD) : Bool := F.loose.all fun p => !p.isEmpty
def FileD.right (F : FileD) : Bool := F.full && decide (-1 ≤ F.fuse) && decide (-1 ≤ F.fault) && (!F.off || decide (F.fuse = -1)) && decide (F.many ≤ 524288)
/-- What 'length' answers. -/
def FileD.len (F : FileD) : Int := if F.full = true ∧ F.many ≤ 524288 then (F.many : Int) else -1
/-- What 'Check' answers. -/
def FileD.err (F : FileD) : Int := if F.right = true then 0 else 200

theorem FileD.right_spec {F : FileD} : F.right = true ↔ F.full = true ∧ -1 ≤ F.fuse ∧ -1 ≤ F.fault ∧ (F.off = true → F.fuse = -1) ∧ F.many ≤ 524288 := by
  unfold FileD.right
  cases F.off <;> simp [and_assoc]

/-- The bytes of a slice: where they lie. -/
structure BytesAt (W : World) (a : Option Addr) (len cap : Nat) (l : List UInt8) : Prop where
  hlen : l.length = len
  hcap : len ≤ cap
  hmax : cap ≤ maxLen
  hfew : len ≤ 140737488355328
  hat : ∀ k x, l[k]? = some x → ∃ b o, a = some ⟨b, o, none⟩ ∧ b < W.heap.size ∧ W.cell? ⟨b, o + k, none⟩ = some (.int .u8 (x.toNat : Int))
  hnil : a = none → cap = 0

structure LooseAt (W : World) (a : Option Addr) (len cap : Nat) (L : List (List UInt8)) : Prop where
  hlen : L.length = len
  hcap : len ≤ cap
  hmax : cap ≤ maxLen
  hfew : len ≤ 140737488355328
  hat : ∀ k p, L[k]? = some p → ∃ b o pa pl pc, a = some ⟨b, o, none⟩ ∧ b < W.heap.size ∧ W.cell? ⟨b, o + k, none⟩ = some (.slice pa pl pc) ∧ BytesAt W pa pl pc p
  hnil : a = none → cap = 0

structure FileAt (W : World) (fa : Option Addr) (fl fc : Nat) (la : Option Addr) (ll lc : Nat) (F : FileD) : Prop where
  firm : BytesAt W fa fl fc F.firm
  loose : LooseAt W la ll lc F.loose
  fuse : I64' F.fuse
  fault : I64' F.fault

theorem BytesAt.ext {W W' : World} {a : Option Addr} {len cap : Nat} {l : List UInt8} (h : BytesAt W a len cap l) (hb : Below W.heap.size W W') : BytesAt W' a len cap l :=
  ⟨h.hlen, h.hcap, h.hmax, h.hfew, fun k x hk => by
    obtain ⟨b, o, h1, h2, h3⟩ := h.hat k x hk
    exact ⟨b, o, h1, Nat.lt_of_lt_of_le h2 hb.size, by rw [hb.cell (p := ⟨b, o + k, none⟩) h2]; exact h3⟩, h.hnil⟩
theorem LooseAt.ext {W W' : World} {a : Option Addr} {len cap : Nat} {L : List (List UInt8)} (h : LooseAt W a len cap L) (hb : Below W.heap.size W W') : LooseAt W' a len cap L :=
  ⟨h.hlen, h.hcap, h.hmax, h.hfew, fun k x hk => by
    obtain ⟨b, o, pa, pl, pc, h1, h2, h3, h4⟩ := h.hat k x hk
    exact ⟨b, o, pa, pl, pc, h1, Nat.lt_of_lt_of_le h2 hb.size, by rw [hb.cell (p := ⟨b, o + k, none⟩) h2]; exact h3, h4.ext hb⟩, h.hnil⟩
theorem FileAt.ext {W W' : World} {fa la : Option Addr} {fl fc ll lc : Nat} {F : FileD} (h : FileAt W fa fl fc la ll lc F) (hb : Below W.heap.size W W') : FileAt W' fa fl fc la ll lc F :=
  ⟨h.firm.ext hb, h.loose.ext hb, h.fuse, h.fault⟩

theorem full_take {L : List (List UInt8)} {k : Nat} {p : List UInt8} (h : L[k]? = some p) : ((L.take (k + 1)).all fun p => !p.isEmpty) = ((L.take k).all (fun p => !p.isEmpty) && !p.isEmpty) := by
  rw [List.take_add_one, h, List.all_append]; simp

theorem FileD.len_neg {F : FileD} : F.len < 0 ↔ ¬ (F.full = true ∧ F.many ≤ 524288) := by
  unfold FileD.len
  split
  · rename_i h; simp [h]
  · rename_i h; simp [h]
theorem FileD.right_len {F : FileD} : F.right = true ↔ -1 ≤ F.fuse ∧ -1 ≤ F.fault ∧ (F.off = true → F.fuse = -1) ∧ 0 ≤ F.len := by
  rw [FileD.right_spec]
  have := F.len_neg
  constructor
  · rintro ⟨h1, h2, h3, h4, h5⟩
    exact ⟨h2, h3, h4, by simp [h1, h5] at this; exact this⟩
  · rintro ⟨h2, h3, h4, h5⟩
    have h6 : F.full = true ∧ F.many ≤ 524288 := by
      apply Classical.byContradiction
      intro h
      have := this.2 h
      omega
    exact ⟨h6.1, h2, h3, h4, h6.2⟩

/-- Two files are one, part by part. -/
def FileD.one (F G : FileD) : Bool := decide (F.fuse = G.fuse) && (decide (F.fault = G.fault) && (decide (F.off = G.off) && (decide (F.firm = G.firm) && decide (F.loose = G.loose))))
theorem FileD.one_spec {F G : FileD} : F.one G = true ↔ F = G := by
  cases F; cases G
  simp [FileD.one]
  constructor
  · rintro ⟨h1, h2, h3, h4, h5⟩; exact ⟨h4, h5, h1, h2, h3⟩
  · rintro ⟨h1, h2, h3, h4, h5⟩; exact ⟨h3, h4, h5, h1, h2⟩
theorem FileD.one_self (F : FileD) : F.one F = true := FileD.one_spec.2 rfl
/-- What is asked ahead of an operation that brings so many bytes, and what it comes to. -/
def FileD.asked (F : FileD) (more : Int) : FileD × Int :=
  if F.off = true then (F, 10)
  else if 524288 - (F.many : Int) < more then (F, 8)
  else if F.fault = 0 then ({ F with fault := -1 }, 9)
  else if F.fuse = 0 then ({ F with fault := if 0 < F.fault then F.fault - 1 else F.fault, fuse := -1, off := true }, 10)
  else ({ F with fault := if 0 < F.fault then F.fault - 1 else F.fault, fuse := if 0 < F.fuse then F.fuse - 1 else F.fuse }, 0)
/-- What an operation comes to. -/
def FileD.op (F : FileD) (more : Int) (g : FileD → FileD) : FileD × Int :=
  if F.right = true then (if (F.asked more).2 = 0 then (g (F.asked more).1, 0) else F.asked more) else (F, 200)
def FileD.append (F : FileD) (b : List UInt8) : FileD × Int :=
  if F.right = true ∧ b = [] then (F, 2) else F.op b.length fun G => { G with loose := G.loose ++ [b] }
def FileD.sync (F : FileD) : FileD × Int := F.op 0 fun G => { G with firm := G.all, loose := [] }
def FileD.set (F : FileD) (g : FileD → FileD) : FileD × Int :=
  if F.right = true then (if F.off = true then (F, 10) else (g F, 0)) else (F, 200)
def FileD.light (F : FileD) (n : Int) : FileD × Int := F.set fun G => { G with fuse := max n (-1) }
def FileD.refuse (F : FileD) (n : Int) : FileD × Int := F.set fun G => { G with fault := max n (-1) }
def FileD.none : FileD := ⟨[], [], -1, -1, false⟩

/-- Where bytes may lie: in the blocks that S names. -/
def BytesIn (S : Nat → Prop) (a : Option Addr) (l : List UInt8) : Prop := ∀ (k : Nat) (x : UInt8), l[k]? = some x → ∃ b o : Nat, a = some ⟨b, o, none⟩ ∧ S b
structure BytesS (W : World) (S : Nat → Prop) (a : Option Addr) (len cap : Nat) (l : List UInt8) : Prop where
  at_ : BytesAt W a len cap l
  in_ : BytesIn S a l
structure LooseS (W : World) (S : Nat → Prop) (a : Option Addr) (len cap : Nat) (L : List (List UInt8)) : Prop where
  hlen : L.length = len
  hcap : len ≤ cap
  hmax : cap ≤ maxLen
  hfew : len ≤ 140737488355328
  hat : ∀ k p, L[k]? = some p → ∃ b o pa pl pc, a = some ⟨b, o, none⟩ ∧ b < W.heap.size ∧ S b ∧ W.cell? ⟨b, o + k, none⟩ = some (.slice pa pl pc) ∧ BytesS W S pa pl pc p
  hnil : a = none → cap = 0
structure FileS (W : World) (S : Nat → Prop) (fa : Option Addr) (fl fc : Nat) (la : Option Addr) (ll lc : Nat) (F : FileD) : Prop where
  firm : BytesS W S fa fl fc F.firm
  loose : LooseS W S la ll lc F.loose
  fuse : I64' F.fuse
  fault : I64' F.fault

theorem LooseS.at_ {W : World} {S : Nat → Prop} {a : Option Addr} {len cap : Nat} {L : List (List UInt8)} (h : LooseS W S a len cap L) : LooseAt W a len cap L :=
  ⟨h.hlen, h.hcap, h.hmax, h.hfew, fun k p hk => by
    obtain ⟨b, o, pa, pl, pc, h1, h2, _, h3, h4⟩ := h.hat k p hk
    exact ⟨b, o, pa, pl, pc, h1, h2, h3, h4.at_⟩, h.hnil⟩
theorem FileS.at_ {W : World} {S : Nat → Prop} {fa la : Option Addr} {fl fc ll lc : Nat} {F : FileD} (h : FileS W S fa fl fc la ll lc F) : FileAt W fa fl fc la ll lc F :=
  ⟨h.firm.at_, h.loose.at_, h.fuse, h.fault⟩
theorem BytesS.same {W W' : World} {S : Nat → Prop} {a : Option Addr} {len cap : Nat} {l : List UInt8} (h : BytesS W S a len cap l) (hs : W.heap.size ≤ W'.heap.size) (hb : ∀ b, S b → b < W.heap.size → W'.heap[b]? = W.heap[b]?) : BytesS W' S a len cap l :=
  ⟨⟨h.at_.hlen, h.at_.hcap, h.at_.hmax, h.at_.hfew, fun k x hk => by
    obtain ⟨b, o, h1, h2, h3⟩ := h.at_.hat k x hk
    obtain ⟨b', o', h1', h4⟩ := h.in_ k x hk
    rw [h1] at h1'; cases h1'
    exact ⟨b, o, h1, by omega, (World.cell?_of_block (hb b h4 h2)).trans h3⟩, h.at_.hnil⟩, h.in_⟩
theorem LooseS.same {W W' : World} {S : Nat → Prop} {a : Option Addr} {len cap : Nat} {L : List (List UInt8)} (h : LooseS W S a len cap L) (hs : W.heap.size ≤ W'.heap.size) (hb : ∀ b, S b → b < W.heap.size → W'.heap[b]? = W.heap[b]?) : LooseS W' S a len cap L :=
  ⟨h.hlen, h.hcap, h.hmax, h.hfew, fun k p hk => by
    obtain ⟨b, o, pa, pl, pc, h1, h2, h3, h4, h5⟩ := h.hat k p hk
    exact ⟨b, o, pa, pl, pc, h1, by omega, h3, (World.cell?_of_block (hb b h3 h2)).trans h4, h5.same hs hb⟩, h.hnil⟩
theorem FileS.same {W W' : World} {S : Nat → Prop} {fa la : Option Addr} {fl fc ll lc : Nat} {F : FileD} (h : FileS W S fa fl fc la ll lc F) (hs : W.heap.size ≤ W'.heap.size) (hb : ∀ b, S b → b < W.heap.size → W'.heap[b]? = W.heap[b]?) : FileS W' S fa fl fc la ll lc F :=
  ⟨h.firm.same hs hb, h.loose.same hs hb, h.fuse, h.fault⟩
theorem BytesS.ext {W W' : World} {S : Nat → Prop} {a : Option Addr} {len cap : Nat} {l : List UInt8} (h : BytesS W S a len cap l) (hb : Below W.heap.size W W') : BytesS W' S a len cap l := h.same hb.size fun b _ h2 => hb.block b h2
theorem LooseS.ext {W W' : World} {S : Nat → Prop} {a : Option Addr} {len cap : Nat} {L : List (List UInt8)} (h : LooseS W S a len cap L) (hb : Below W.heap.size W W') : LooseS W' S a len cap L := h.same hb.size fun b _ h2 => hb.block b h2
theorem FileS.ext {W W' : World} {S : Nat → Prop} {fa la : Option Addr} {fl fc ll lc : Nat} {F : FileD} (h : FileS W S fa fl fc la ll lc F) (hb : Below W.heap.size W W') : FileS W' S fa fl fc la ll lc F := h.same hb.size fun b _ h2 => hb.block b h2
theorem BytesIn.mono {S T : Nat → Prop} {a : Option Addr} {l : List UInt8} (h : BytesIn S a l) (hst : ∀ b, S b → T b) : BytesIn T a l := fun k x hk => by
  obtain ⟨b, o, h1, h2⟩ := h k x hk
  exact ⟨b, o, h1, hst b h2⟩
theorem BytesS.mono {W : World} {S T : Nat → Prop} {a : Option Addr} {len cap : Nat} {l : List UInt8} (h : BytesS W S a len cap l) (hst : ∀ b, S b → T b) : BytesS W T a len cap l := ⟨h.at_, h.in_.mono hst⟩
theorem LooseS.mono {W : World} {S T : Nat → Prop} {a : Option Addr} {len cap : Nat} {L : List (List UInt8)} (h : LooseS W S a len cap L) (hst : ∀ b, S b → T b) : LooseS W T a len cap L :=
  ⟨h.hlen, h.hcap, h.hmax, h.hfew, fun k p hk => by
    obtain ⟨b, o, pa, pl, pc, h1, h2, h3, h4, h5⟩ := h.hat k p hk
    exact ⟨b, o, pa, pl, pc, h1, h2, hst b h3, h4, h5.mono hst⟩, h.hnil⟩
theorem FileS.mono {W : World} {S T : Nat → Prop} {fa la : Option Addr} {fl fc ll lc : Nat} {F : FileD} (h : FileS W S fa fl fc la ll lc F) (hst : ∀ b, S b → T b) : FileS W T fa fl fc la ll lc F :=
  ⟨h.firm.mono hst, h.loose.mono hst, h.fuse, h.fault⟩
theorem BytesAt.s {W : World} {a : Option Addr} {len cap : Nat} {l : List UInt8} (h : BytesAt W a len cap l) : BytesS W (fun b => b < W.heap.size) a len cap l :=
  ⟨h, fun k x hk => by obtain ⟨b, o, h1, h2, _⟩ := h.hat k x hk; exact ⟨b, o, h1, h2⟩⟩
theorem LooseAt.s {W : World} {a : Option Addr} {len cap : Nat} {L : List (List UInt8)} (h : LooseAt W a len cap L) : LooseS W (fun b => b < W.heap.size) a len cap L :=
  ⟨h.hlen, h.hcap, h.hmax, h.hfew, fun k p hk => by
    obtain ⟨b, o, pa, pl, pc, h1, h2, h3, h4⟩ := h.hat k p hk
    exact ⟨b, o, pa, pl, pc, h1, h2, h2, h3, h4.s⟩, h.hnil⟩
theorem FileAt.s {W : World} {fa la : Option Addr} {fl fc ll lc : Nat} {F : FileD} (h : FileAt W fa fl fc la ll lc F) : FileS W (fun b => b < W.heap.size) fa fl fc la ll lc F :=
  ⟨h.firm.s, h.loose.s, h.fuse, h.fault⟩
theorem BytesS.nil_ {W : World} {S : Nat → Prop} : BytesS W S none 0 0 [] := ⟨⟨rfl, Nat.le_refl _, by unfold maxLen; omega, by omega, fun k x hk => by simp at hk, fun _ => rfl⟩, fun k x hk => by simp at hk⟩
theorem LooseS.nil_ {W : World} {S : Nat → Prop} : LooseS W S none 0 0 [] := ⟨rfl, Nat.le_refl _, by unfold maxLen; omega, by omega, fun k x hk => by simp at hk, fun _ => rfl⟩

/-- The blocks of S, and what a call that began in w has made. -/
def Or (S : Nat → Prop) (w : World) (b : Nat) : Prop := S b ∨ w.heap.size ≤ b
/-- A file and an error are handed back. -/
def GivesFile (w : World) (S : Nat → Prop) (F : FileD) (err : Int) (e : Ending) (w' : World) : Prop :=
  ∃ fa fl fc la ll lc, e = .returned (.tuple #[.agg #[.slice fa fl fc, .slice la ll lc, .int .i64 F.fuse, .int .i64 F.fault, .bool F.off], .int .i64 err]) ∧ FileS w' (Or S w) fa fl fc la ll lc F ∧ Below w.heap.size w w'

theorem BytesAt.nil_ {W : World} : BytesAt W none 0 0 [] := ⟨rfl, Nat.le_refl _, by unfold maxLen; omega, by omega, fun k x hk => by simp at hk, fun _ => rfl⟩
theorem LooseAt.nil_ {W : World} : LooseAt W none 0 0 [] := ⟨rfl, Nat.le_refl _, by unfold maxLen; omega, by omega, fun k x hk => by simp at hk, fun _ => rfl⟩
end Go.Dav

namespace Go.Dav
set_option linter.unusedVariables false
set_option linter.unusedSimpArgs false
open Go Go.RowKit

/-- The cells of a slice, and the blocks where they lie. -/
structure CellsS (W : World) (S : Nat → Prop) (a : Option Addr) (n : Nat) (xs : List Value) : Prop where
  len : xs.length = n
  at_ : ∀ (k : Nat) (v : Value), xs[k]? = some v → ∃ b o : Nat, a = some ⟨b, o, none⟩ ∧ b < W.heap.size ∧ S b ∧ W.cell? ⟨b, o + k, none⟩ = some v

/-- Bytes, as cells. -/
def u8s (l : List UInt8) : List Value := l.map fun x => Value.int .u8 (x.toNat : Int)
theorem u8s_one (l : List UInt8) : ∀ u ∈ u8s l, u.oneCell' = true := fun u hu => by
  obtain ⟨x, _, rfl⟩ := List.mem_map.1 hu; rfl
theorem u8s_len (l : List UInt8) : (u8s l).length = l.length := by simp [u8s]
theorem u8s_append (l k : List UInt8) : u8s (l ++ k) = u8s l ++ u8s k := by simp [u8s]
theorem u8s_inj {l k : List UInt8} (h : u8s l = u8s k) : l = k := by
  unfold u8s at h
  refine (List.map_inj_right (fun x y hxy => ?_)).1 h
  injection hxy with _ h
  exact UInt8.toNat_inj.1 (by omega)
theorem u8s_get {l : List UInt8} {k : Nat} {x : UInt8} (h : l[k]? = some x) : (u8s l)[k]? = some (.int .u8 (x.toNat : Int)) := by simp [u8s, h]

theorem BytesS.cells {W : World} {S : Nat → Prop} {a : Option Addr} {n cap : Nat} {l : List UInt8} (h : BytesS W S a n cap l) : CellsS W S a n (u8s l) :=
  ⟨by rw [u8s_len, h.at_.hlen], fun k v hk => by
    unfold u8s at hk
    rw [List.getElem?_map] at hk
    cases hx : l[k]? with
    | none => rw [hx] at hk; cases hk
    | some x =>
      rw [hx] at hk
      cases hk
      obtain ⟨b, o, h1, h2, h3⟩ := h.at_.hat k x hx
      obtain ⟨b', o', h1', h4⟩ := h.in_ k x hx
      rw [h1] at h1'; cases h1'
      exact ⟨b, o, h1, h2, h4, h3⟩⟩
theorem BytesS.of_cells {W : World} {S : Nat → Prop} {a : Option Addr} {n cap : Nat} {l : List UInt8} (h : CellsS W S a n (u8s l)) (h1 : n ≤ cap) (h2 : cap ≤ maxLen) (h3 : n ≤ 140737488355328) (h4 : a = none → cap = 0) : BytesS W S a n cap l :=
  ⟨⟨by rw [← h.len, u8s_len], h1, h2, h3, fun k x hk => by
    obtain ⟨b, o, g1, g2, _, g4⟩ := h.at_ k _ (u8s_get hk)
    exact ⟨b, o, g1, g2, g4⟩, h4⟩, fun k x hk => by
    obtain ⟨b, o, g1, _, g3, _⟩ := h.at_ k _ (u8s_get hk)
    exact ⟨b, o, g1, g3⟩⟩

theorem CellsS.ext {W W' : World} {S : Nat → Prop} {a : Option Addr} {n : Nat} {xs : List Value} (h : CellsS W S a n xs) (hb : Below W.heap.size W W') : CellsS W' S a n xs :=
  ⟨h.len, fun k v hk => by
    obtain ⟨b, o, h1, h2, h3, h4⟩ := h.at_ k v hk
    exact ⟨b, o, h1, Nat.lt_of_lt_of_le h2 hb.size, h3, by rw [hb.cell (p := ⟨b, o + k, none⟩) h2]; exact h4⟩⟩
theorem CellsS.same {W W' : World} {S : Nat → Prop} {a : Option Addr} {n : Nat} {xs : List Value} (h : CellsS W S a n xs) (hs : W.heap.size ≤ W'.heap.size) (hb : ∀ b, S b → b < W.heap.size → W'.heap[b]? = W.heap[b]?) : CellsS W' S a n xs :=
  ⟨h.len, fun k v hk => by
    obtain ⟨b, o, h1, h2, h3, h4⟩ := h.at_ k v hk
    exact ⟨b, o, h1, by omega, h3, (World.cell?_of_block (hb b h3 h2)).trans h4⟩⟩
theorem CellsS.mono {W : World} {S T : Nat → Prop} {a : Option Addr} {n : Nat} {xs : List Value} (h : CellsS W S a n xs) (hst : ∀ b, S b → T b) : CellsS W T a n xs :=
  ⟨h.len, fun k v hk => by
    obtain ⟨b, o, h1, h2, h3, h4⟩ := h.at_ k v hk
    exact ⟨b, o, h1, h2, hst b h3, h4⟩⟩
theorem CellsS.nil_ {W : World} {S : Nat → Prop} {a : Option Addr} : CellsS W S a 0 [] := ⟨rfl, fun k v hk => by simp at hk⟩

/-- The cells that lie one behind the other from an address on. -/
theorem CellsS.from_ {W : World} {S : Nat → Prop} {ad : Addr} {n : Nat} {xs : List Value} (h : CellsS W S (some ad) n xs) : ∀ j u, xs[j]? = some u → W.cell? (ad.add j) = some u := fun j u hj => by
  obtain ⟨b, o, h1, _, _, h4⟩ := h.at_ j u hj
  cases h1
  rw [Addr.add_mid]
  exact h4

theorem CellsS.src {P : Program} {W : World} {S : Nat → Prop} {a : Option Addr} {n c : Nat} {xs : List Value} (h : CellsS W S a n xs) (h1 : ∀ u ∈ xs, u.oneCell' = true) {t e : TypeId} (ht : P.underlying t = some (.slice e)) : Src P 1 t (.slice a n c) n xs W := by
  cases a with
  | none =>
    have h0 : xs = [] := by
      cases xs with
      | nil => rfl
      | cons x xs => obtain ⟨b, o, h1, _⟩ := h.at_ 0 x rfl; cases h1
    subst h0
    have hn : n = 0 := by have := h.len; simpa using this.symm
    subst hn
    exact Src.ofNil W ht c
  | some ad => exact Src.ofSlice W ht ad n c xs (by rw [h.len]; omega) h.from_ h1

/-- The element's row of the table: one cell. -/
structure Elem1 (P : Program) (t e : TypeId) (bytes : Nat) : Prop where
  ht : P.underlying t = some (.slice e)
  row : ∃ i z, P.info? e = some i ∧ i.zero = some z ∧ i.size = 1 ∧ i.bytes = bytes ∧ z.cells.size = 1

theorem own_cells {w : World} {base e n : Nat} {v : Value} {xs : List Value} (h : w.ownsRow base e 1 v n xs) :
    ∃ a cap, v = .slice a n cap ∧ n ≤ cap ∧ cap ≤ maxLen ∧ (a = none → cap = 0) ∧ CellsS w (fun b => base ≤ b) a n xs := by
  rcases h.2 with ⟨h1, h2⟩ | ⟨g, cap, cur, h1, h2, h3, h4, h5, _⟩
  · subst h1 h2
    have hx : xs = [] := List.length_eq_zero_iff.1 (by have := h.1; omega)
    subst hx
    exact ⟨none, 0, rfl, Nat.le_refl _, by unfold maxLen; omega, fun _ => rfl, CellsS.nil_⟩
  · subst h1
    refine ⟨_, cap, rfl, h4, h5, (fun h => by cases h), by have := h.1; omega, fun k v hk => ⟨g, 0, rfl, (Array.getElem?_eq_some_iff.1 h3).1, h2, ?_⟩⟩
    have := h.cells (g := g) rfl k v hk
    rw [Addr.add_mid] at this
    exact this

section
variable {P : Program} {W : World}

/-- append to a row of the call's own, from whatever slice. -/
theorem run_append_rowS {t e bytes : Nat} (E : Elem1 P t e bytes) (ty : TypeId) (base : Nat) (v : Value) (n : Nat) (xs : List Value) (hown : W.ownsRow base e 1 v n xs) (T : Nat → Prop) (ax : Option Addr) (m c : Nat) (ys : List Value) (hy : CellsS W T ax m ys)
    (h1 : ∀ u ∈ ys, u.oneCell' = true) (hnone : ax = none → c = 0) (h63 : n + m ≤ maxLen) (hbytes : (n + m) * bytes ≤ 140737488355328) (hbase : base ≤ W.heap.size) :
    ∃ v' w', (Builtin.append_ #[t, t] ty #[v, .slice ax m c]).run P W = .ok v' w' ∧ w'.ownsRow base e 1 v' (n + m) (xs ++ ys) ∧ W.grownBy w' v.ownBlock := by
  obtain ⟨i, z, hi, hz, hs, hb, hzs⟩ := E.row
  cases ax with
  | none =>
    have h0 : ys = [] := by
      cases ys with
      | nil => rfl
      | cons x xs => obtain ⟨b, o, h1, _⟩ := hy.at_ 0 x rfl; cases h1
    subst h0
    have hm : m = 0 := by have := hy.len; simpa using this.symm
    have hc := hnone rfl
    subst hm hc
    exact ⟨v, W, run_append_owned_none W base t ty e i 1 E.ht hi v n xs hown, by simpa using hown, World.grownBy.refl _ _⟩
  | some ad =>
    obtain ⟨v', w', r1, r2, r3, _⟩ := run_append_own (P := P) W base t ty e i z 1 bytes E.ht hi hz hs hb hzs (by omega) v n xs hown ad m c ys (by rw [hy.len]; omega) hy.from_ h1 h63 hbytes hbase
    exact ⟨v', w', r1, r2, r3⟩

/-- append to a slice that is full, from whatever slice. -/
theorem run_append_fullS {t e bytes : Nat} (E : Elem1 P t e bytes) (ty : TypeId) (S : Nat → Prop) (a : Option Addr) (n : Nat) (xs : List Value) (hx : CellsS W S a n xs) (T : Nat → Prop) (ax : Option Addr) (m c : Nat) (ys : List Value) (hy : CellsS W T ax m ys)
    (h1 : ∀ u ∈ ys, u.oneCell' = true) (hnone : a = none → n = 0) (h63 : n + m ≤ maxLen) (hbytes : (n + m) * bytes ≤ 140737488355328) :
    ∃ a' cap' w', (Builtin.append_ #[t, t] ty #[.slice a n n, .slice ax m c]).run P W = .ok (.slice a' (n + m) cap') w' ∧ CellsS w' (fun b => (S b ∧ m = 0) ∨ W.heap.size ≤ b) a' (n + m) (xs ++ ys) ∧ n + m ≤ cap' ∧ cap' ≤ maxLen ∧ (a' = none → cap' = 0) ∧ Below W.heap.size W w' := by
  obtain ⟨i, z, hi, hz, hs, hb, hzs⟩ := E.row
  have hsrc : Src P i.size t (.slice ax m c) m ys W := by rw [hs]; exact hy.src h1 E.ht
  by_cases hm : m = 0
  · subst hm
    have h0 : ys = [] := List.length_eq_zero_iff.1 hy.len
    subst h0
    refine ⟨a, n, W, run_append_nothing W t t ty e i E.ht hi a n n (Nat.le_refl _) _ hsrc, ?_, Nat.le_refl _, by omega, hnone, Below.refl _ _⟩
    rw [List.append_nil]
    exact hx.mono fun b hb => .inl ⟨hb, rfl⟩
  · have hold : (Builtin.firstCells i.size n (.slice a n n)).run P W.drew = .ok xs.toArray W.drew := by
      cases a with
      | none =>
        have h0 : xs = [] := by
          cases xs with
          | nil => rfl
          | cons x xs => obtain ⟨b, o, h1, _⟩ := hx.at_ 0 x rfl; cases h1
        subst h0
        rw [hnone rfl]
        exact run_firstCells_none W.drew i.size 0 0 0
      | some ad =>
        refine run_firstCells_some W.drew i.size n ad n n xs (by rw [hx.len, hs]; omega) ?_
        have := hx.from_
        simpa using this
    have h64 : n + m ≤ 9223372036854775807 := by simp only [maxLen] at h63; omega
    have hr := run_append_grow_src (P := P) W t t ty e i z E.ht hi hz a n n xs hold _ m ys hsrc (by omega) (by omega) (growslice_fits (by omega) (by rw [hb]; exact hbytes))
    have hge := grownCap_ge W (n + m) n e
    have hcm : grownCap W (n + m) n e ≤ maxLen := grownCap_le_maxLen W (n + m) n e h63
    refine ⟨_, _, _, hr, ⟨by rw [List.length_append, hx.len, hy.len], fun k v hk => ⟨W.heap.size, 0, rfl, by simp, .inr (Nat.le_refl _), ?_⟩⟩, hge, hcm, (fun h => by cases h), ?_⟩
    · have hnew := heap_alloc_new W.drew (.cells ((xs ++ ys).toArray ++ Builtin.zeroCells z.cells (grownCap W (n + m) n e - (n + m))) e)
      have hlt := (List.getElem?_eq_some_iff.1 hk).1
      rw [World.cell?]
      have e1 : W.drew.heap.size = W.heap.size := rfl
      rw [e1] at hnew
      simp only [hnew]
      simp
      rw [Array.getElem?_append_left (by simpa using hlt)]
      simpa using hk
    · exact (Below.refl _ _).drew.alloc (Nat.le_refl _) _

variable {ops : Array Oper} {rest : List Oper} {o : Oper} {a : Act} {Q : Exit → Act → World → Prop}

theorem wpList_append_rowS (hgd : o.guard = none) (s x : Operand) (t : TypeId) (ho : o.op = .call { callee := .builtin .append, args := #[s, x], argTypes := #[t, t] }) {e bytes : Nat} (E : Elem1 P t e bytes) (base : Nat) (v : Value) (n : Nat) (xs : List Value) (hs : a.eval s = v) (hown : W.ownsRow base e 1 v n xs)
    (T : Nat → Prop) (ax : Option Addr) (m c : Nat) (ys : List Value) (hx : a.eval x = .slice ax m c) (hy : CellsS W T ax m ys)
    (h1 : ∀ u ∈ ys, u.oneCell' = true) (hnone : ax = none → c = 0) (h63 : n + m ≤ maxLen) (hbytes : (n + m) * bytes ≤ 140737488355328) (hbase : base ≤ W.heap.size)
    (h : ∀ v' w', w'.ownsRow base e 1 v' (n + m) (xs ++ ys) → W.grownBy w' v.ownBlock → wpList P ops Q rest (a.put o.dst v') w') : wpList P ops Q (o :: rest) a W := by
  refine wpList_plain hgd fun K hK => ?_
  obtain ⟨v', w', hr, h2, h3⟩ := run_append_rowS (P := P) E o.type base v n xs hown T ax m c ys hy h1 hnone h63 hbytes hbase
  unfold Oper.wp execOp
  simp only [ho, resolve, invoke, builtin, Sem.run_bind, Sem.run_pure, Result.andThen_ok, List.map_toArray, List.map_cons, List.map_nil, hs, hx, hr]
  exact hK _ _ (h v' w' h2 h3)

theorem wpList_append_fullS (hgd : o.guard = none) (s x : Operand) (t : TypeId) (ho : o.op = .call { callee := .builtin .append, args := #[s, x], argTypes := #[t, t] }) {e bytes : Nat} (E : Elem1 P t e bytes) (S : Nat → Prop) (b : Option Addr) (n : Nat) (xs : List Value) (hs : a.eval s = .slice b n n) (hx' : CellsS W S b n xs)
    (T : Nat → Prop) (ax : Option Addr) (m c : Nat) (ys : List Value) (hx : a.eval x = .slice ax m c) (hy : CellsS W T ax m ys)
    (h1 : ∀ u ∈ ys, u.oneCell' = true) (hnone : b = none → n = 0) (h63 : n + m ≤ maxLen) (hbytes : (n + m) * bytes ≤ 140737488355328)
    (h : ∀ a' cap' w', CellsS w' (fun b => (S b ∧ m = 0) ∨ W.heap.size ≤ b) a' (n + m) (xs ++ ys) → n + m ≤ cap' → cap' ≤ maxLen → (a' = none → cap' = 0) → Below W.heap.size W w' → wpList P ops Q rest (a.put o.dst (.slice a' (n + m) cap')) w') : wpList P ops Q (o :: rest) a W := by
  refine wpList_plain hgd fun K hK => ?_
  obtain ⟨a', cap', w', hr, h2, h3, h4, h5, h6⟩ := run_append_fullS (P := P) E o.type S b n xs hx' T ax m c ys hy h1 hnone h63 hbytes
  unfold Oper.wp execOp
  simp only [ho, resolve, invoke, builtin, Sem.run_bind, Sem.run_pure, Result.andThen_ok, List.map_toArray, List.map_cons, List.map_nil, hs, hx, hr]
  exact hK _ _ (h a' cap' w' h2 h3 h4 h5 h6)
end
/-- Bytes in memory that is new since B. -/
def NewBytes (B : Nat) (x : List UInt8) (v : Value) (W : World) : Prop := ∃ a n c, v = .slice a n c ∧ BytesS W (fun b => B ≤ b) a n c x
theorem NewBytes.later {B : Nat} {x : List UInt8} : ∀ v W W', NewBytes B x v W → Below W.heap.size W W' → NewBytes B x v W' :=
  fun _ _ _ ⟨a, n, c, h1, h2⟩ hb => ⟨a, n, c, h1, h2.ext hb⟩
/-- A slice of one slice of bytes, both new since B. -/
def NewPiece (B : Nat) (x : List UInt8) (v : Value) (W : World) : Prop := ∃ g a n c, v = .slice (some ⟨g, 0, none⟩) 1 1 ∧ B ≤ g ∧ g < W.heap.size ∧ W.cell? ⟨g, 0, none⟩ = some (.slice a n c) ∧ BytesS W (fun b => B ≤ b) a n c x
theorem NewPiece.later {B : Nat} {x : List UInt8} : ∀ v W W', NewPiece B x v W → Below W.heap.size W W' → NewPiece B x v W' :=
  fun _ _ _ ⟨g, a, n, c, h1, h2, h3, h4, h5⟩ hb => ⟨g, a, n, c, h1, h2, Nat.lt_of_lt_of_le h3 hb.size, by rw [hb.cell (p := ⟨g, 0, none⟩) h3]; exact h4, h5.ext hb⟩
/-- Pieces of a file. -/
def Pieces (S : Nat → Prop) (L : List (List UInt8)) (v : Value) (W : World) : Prop := ∃ a n c, v = .slice a n c ∧ LooseS W S a n c L
theorem Pieces.later {S : Nat → Prop} {L : List (List UInt8)} : ∀ v W W', Pieces S L v W → Below W.heap.size W W' → Pieces S L v W' :=
  fun _ _ _ ⟨a, n, c, h1, h2⟩ hb => ⟨a, n, c, h1, h2.ext hb⟩

/-- The cells of a slice of pieces. -/
def PieceCells (W : World) (S : Nat → Prop) (vs : List Value) (L : List (List UInt8)) : Prop :=
  vs.length = L.length ∧ ∀ (k : Nat) (p : List UInt8), L[k]? = some p → ∃ pa pl pc, vs[k]? = some (.slice pa pl pc) ∧ BytesS W S pa pl pc p
theorem PieceCells.ext {W W' : World} {S : Nat → Prop} {vs : List Value} {L : List (List UInt8)} (h : PieceCells W S vs L) (hb : Below W.heap.size W W') : PieceCells W' S vs L :=
  ⟨h.1, fun k p hk => by obtain ⟨pa, pl, pc, h1, h2⟩ := h.2 k p hk; exact ⟨pa, pl, pc, h1, h2.ext hb⟩⟩
theorem PieceCells.mono {W : World} {S T : Nat → Prop} {vs : List Value} {L : List (List UInt8)} (h : PieceCells W S vs L) (hst : ∀ b, S b → T b) : PieceCells W T vs L :=
  ⟨h.1, fun k p hk => by obtain ⟨pa, pl, pc, h1, h2⟩ := h.2 k p hk; exact ⟨pa, pl, pc, h1, h2.mono hst⟩⟩
theorem PieceCells.append {W : World} {S : Nat → Prop} {vs ws : List Value} {L K : List (List UInt8)} (h : PieceCells W S vs L) (k : PieceCells W S ws K) : PieceCells W S (vs ++ ws) (L ++ K) := by
  refine ⟨by simp [h.1, k.1], fun i p hp => ?_⟩
  by_cases hi : i < L.length
  · rw [List.getElem?_append_left hi] at hp
    obtain ⟨pa, pl, pc, h1, h2⟩ := h.2 i p hp
    exact ⟨pa, pl, pc, by rw [List.getElem?_append_left (by rw [h.1]; exact hi)]; exact h1, h2⟩
  · rw [List.getElem?_append_right (by omega)] at hp
    obtain ⟨pa, pl, pc, h1, h2⟩ := k.2 _ p hp
    exact ⟨pa, pl, pc, by rw [List.getElem?_append_right (by rw [h.1]; omega), h.1]; exact h1, h2⟩
theorem PieceCells.one {W : World} {S : Nat → Prop} {vs : List Value} {L : List (List UInt8)} (h : PieceCells W S vs L) : ∀ u ∈ vs, u.oneCell' = true := fun u hu => by
  obtain ⟨k, hk, e⟩ := List.mem_iff_getElem.1 hu
  obtain ⟨pa, pl, pc, h1, _⟩ := h.2 k (L[k]'(by rw [← h.1]; exact hk)) (List.getElem?_eq_getElem (by rw [← h.1]; exact hk))
  rw [List.getElem?_eq_getElem hk] at h1
  have h2 := Option.some.inj h1
  rw [e] at h2
  rw [h2]; rfl
theorem LooseS.open_ {W : World} {S : Nat → Prop} {a : Option Addr} {n c : Nat} {L : List (List UInt8)} (h : LooseS W S a n c L) : ∃ vs, CellsS W S a n vs ∧ PieceCells W S vs L := by
  have key : ∀ i, i < L.length → ∃ v : Value, ∃ p, L[i]? = some p ∧ ∃ b o pa pl pc, a = some ⟨b, o, none⟩ ∧ b < W.heap.size ∧ S b ∧ W.cell? ⟨b, o + i, none⟩ = some v ∧ v = .slice pa pl pc ∧ BytesS W S pa pl pc p := fun i hi => by
    obtain ⟨b, o, pa, pl, pc, h1, h2, h3, h4, h5⟩ := h.hat i L[i] (List.getElem?_eq_getElem hi)
    exact ⟨_, L[i], List.getElem?_eq_getElem hi, b, o, pa, pl, pc, h1, h2, h3, h4, rfl, h5⟩
  have list : ∀ m, m ≤ L.length → ∃ vs : List Value, vs.length = m ∧ ∀ (k : Nat) (v : Value), vs[k]? = some v → ∃ p, L[k]? = some p ∧ ∃ b o pa pl pc, a = some ⟨b, o, none⟩ ∧ b < W.heap.size ∧ S b ∧ W.cell? ⟨b, o + k, none⟩ = some v ∧ v = .slice pa pl pc ∧ BytesS W S pa pl pc p := by
    intro m
    induction m with
    | zero => intro _; exact ⟨[], rfl, fun k v hk => by simp at hk⟩
    | succ m ih =>
      intro hm
      obtain ⟨vs, hl, hv⟩ := ih (by omega)
      obtain ⟨v, hv2⟩ := key m (by omega)
      refine ⟨vs ++ [v], by simp [hl], fun k u hk => ?_⟩
      by_cases hkm : k < vs.length
      · rw [List.getElem?_append_left hkm] at hk; exact hv k u hk
      · rw [List.getElem?_append_right (by omega)] at hk
        have hlt := (List.getElem?_eq_some_iff.1 hk).1
        simp at hlt
        have e : k = m := by omega
        subst e
        rw [hl, Nat.sub_self] at hk
        cases hk
        exact hv2
  obtain ⟨vs, hl, hv⟩ := list L.length (Nat.le_refl _)
  refine ⟨vs, ⟨by rw [hl, h.hlen], fun k v hk => ?_⟩, hl, fun k p hp => ?_⟩
  · obtain ⟨p, _, b, o, _, _, _, h1, h2, h3, h4, _⟩ := hv k v hk
    exact ⟨b, o, h1, h2, h3, h4⟩
  · have hk : k < vs.length := by rw [hl]; exact (List.getElem?_eq_some_iff.1 hp).1
    obtain ⟨p', hp', b, o, pa, pl, pc, _, _, _, _, h5, h6⟩ := hv k vs[k] (List.getElem?_eq_getElem hk)
    rw [hp] at hp'; cases hp'
    exact ⟨pa, pl, pc, by rw [List.getElem?_eq_getElem hk, h5], h6⟩
theorem LooseS.shut_ {W : World} {S : Nat → Prop} {a : Option Addr} {n c : Nat} {L : List (List UInt8)} {vs : List Value} (h : CellsS W S a n vs) (k : PieceCells W S vs L) (h1 : n ≤ c) (h2 : c ≤ maxLen) (h3 : n ≤ 140737488355328) (h4 : a = none → c = 0) : LooseS W S a n c L :=
  ⟨by rw [← k.1, h.len], h1, h2, h3, fun i p hp => by
    obtain ⟨pa, pl, pc, g1, g2⟩ := k.2 i p hp
    obtain ⟨b, o, f1, f2, f3, f4⟩ := h.at_ i _ g1
    exact ⟨b, o, pa, pl, pc, f1, f2, f3, f4, g2⟩, h4⟩

theorem newPiece_alloc {B : Nat} {x : List UInt8} {W : World} {a : Option Addr} {n c : Nat} {t : TypeId} (h : B ≤ W.heap.size) (hB : BytesS W (fun b => B ≤ b) a n c x) :
    Below W.heap.size W (W.alloc (.cells #[.slice a n c] t)) ∧ NewPiece B x (.slice (some ⟨W.heap.size, 0, none⟩) 1 1) (W.alloc (.cells #[.slice a n c] t)) :=
  ⟨(Below.refl _ _).alloc (Nat.le_refl _) _, W.heap.size, a, n, c, rfl, h, by simp, (Blk.new W [_] t).cell 0 rfl, hB.ext ((Below.refl _ _).alloc (Nat.le_refl _) _)⟩
theorem cells_one {W : World} {S : Nat → Prop} {g : Nat} {v : Value} (h1 : S g) (h2 : g < W.heap.size) (h3 : W.cell? ⟨g, 0, none⟩ = some v) : CellsS W S (some ⟨g, 0, none⟩) 1 [v] :=
  ⟨rfl, fun k u hk => by
    match k, hk with
    | 0, hk => cases hk; exact ⟨g, 0, rfl, h2, h1, h3⟩
    | k + 1, hk => simp at hk⟩
theorem full_len : ∀ {L : List (List UInt8)}, (L.all fun p => !p.isEmpty) = true → L.length ≤ (L.map List.length).sum
  | [], _ => by simp
  | p :: L, h => by
    rw [List.all_cons, Bool.and_eq_true] at h
    have ih := full_len h.2
    have hp : 1 ≤ p.length := by cases p with | nil => simp at h | cons => simp
    simp only [List.length_cons, List.map_cons, List.sum_cons]
    omega
theorem pieces_append {W0 W W' : World} {S : Nat → Prop} {vs : List Value} {L : List (List UInt8)} {x : List UInt8} {a a' : Option Addr} {n c c' m : Nat} (hp : PieceCells W S vs L) (hc : CellsS W' (fun b => (S b ∧ 1 = 0) ∨ W.heap.size ≤ b) a' m (vs ++ [.slice a n c])) (hB : BytesS W (fun b => W0.heap.size ≤ b) a n c x)
    (hb : Below W.heap.size W W') (hs : W0.heap.size ≤ W.heap.size) (h1 : m ≤ c') (h2 : c' ≤ maxLen) (h3 : m ≤ 140737488355328) (h4 : a' = none → c' = 0) : LooseS W' (Or S W0) a' m c' (L ++ [x]) := by
  refine LooseS.shut_ (hc.mono fun b h => ?_) (PieceCells.append ((hp.ext hb).mono fun b h => Or.inl h) ⟨rfl, fun k p hk => ?_⟩) h1 h2 h3 h4
  · rcases h with ⟨_, h⟩ | h
    · cases h
    · exact .inr (by omega)
  · match k, hk with
    | 0, hk => cases hk; exact ⟨a, n, c, rfl, (hB.ext hb).mono fun b h => Or.inr h⟩
    | k + 1, hk => simp at hk
theorem gives_append {P : Program} {o : Oper} {a : Act} {W w' : World} {R : Value → World → Prop} {s x : Operand} {t : TypeId} {v1 v2 v' : Value} (ho : o.op = .call { callee := .builtin .append, args := #[s, x], argTypes := #[t, t] }) (hs : a.eval s = v1) (hx : a.eval x = v2)
    (hr : (Builtin.append_ #[t, t] o.type #[v1, v2]).run P W = .ok v' w') (hb : Below W.heap.size W w') (hR : R v' w') : Gives P o a W R := by
  unfold Gives execOp
  simp only [ho, resolve, invoke, builtin, Sem.run_bind, Sem.run_pure, Result.andThen_ok, List.map_toArray, List.map_cons, List.map_nil, hs, hx, hr]
  exact ⟨hb, hR⟩
theorem PieceCells.same {W W' : World} {S : Nat → Prop} {vs : List Value} {L : List (List UInt8)} (h : PieceCells W S vs L) (hs : W.heap.size ≤ W'.heap.size) (hb : ∀ b, S b → b < W.heap.size → W'.heap[b]? = W.heap[b]?) : PieceCells W' S vs L :=
  ⟨h.1, fun k p hk => by obtain ⟨pa, pl, pc, h1, h2⟩ := h.2 k p hk; exact ⟨pa, pl, pc, h1, h2.same hs hb⟩⟩
theorem ownsRow_ext {w w' : World} {base e size n : Nat} {v : Value} {xs : List Value} (h : w.ownsRow base e size v n xs) (hb : Below w.heap.size w w') : w'.ownsRow base e size v n xs := by
  refine ⟨h.1, ?_⟩
  rcases h.2 with h2 | ⟨g, cap, cur, h1, h2, h3, h4⟩
  · exact .inl h2
  · exact .inr ⟨g, cap, cur, h1, h2, (hb.block g (Array.getElem?_eq_some_iff.1 h3).1).trans h3, h4⟩
theorem below_own {W0 w w' : World} {base B e size n : Nat} {v : Value} {xs : List Value} (hb : Below B W0 w) (hs : B ≤ w.heap.size) (h : w.ownsRow base e size v n xs) (hB : B ≤ base) (hg : w.grownBy w' v.ownBlock) : Below B W0 w' :=
  hb.grown hg hs fun k hk => Nat.le_trans hB (h.lt k hk).1
theorem pieces_one {W : World} {S : Nat → Prop} {a : Option Addr} {n c : Nat} {x : List UInt8} (h : BytesS W S a n c x) : PieceCells W S [.slice a n c] [x] :=
  ⟨rfl, fun k p hk => by
    match k, hk with
    | 0, hk => cases hk; exact ⟨a, n, c, rfl, h⟩
    | k + 1, hk => simp at hk⟩
end Go.Dav
