/-
  A region that draws its order: one set of facts, one for each operation, serves every order.
-/
import Derived.StillTail
import Derived.Below
import Derived.KernelRfl
import Derived.WalkKit
namespace Go.Dav
set_option linter.unusedVariables false
set_option linter.unusedSimpArgs false
open Go Go.RowKit

/-- The operation, carried out in W, yields a value for which R holds, and a world that has only grown. -/
def Gives (P : Program) (o : Oper) (a : Act) (W : World) (R : Value → World → Prop) : Prop :=
  match (execOp a.eval o).run P W with
  | .ok (.value u) W' => Below W.heap.size W W' ∧ R u W'
  | .ok .skip W' => Below W.heap.size W W' ∧ R undef W'
  | .ok (.enter f args) W' => Below W.heap.size W W' ∧ Calls P f args W' (fun e W'' => ∃ v, e = .returned v ∧ Below W'.heap.size W' W'' ∧ R v W'')
  | _ => False

theorem ext_trans {a b c : World} (h : Below a.heap.size a b) (k : Below b.heap.size b c) : Below a.heap.size a c := h.trans (k.mono h.size)

theorem wp_of_gives {P : Program} {o : Oper} {a : Act} {W : World} {R : Value → World → Prop} {K : Act → World → Prop} {Q : Exit → Act → World → Prop}
    (h : Gives P o a W R) (hk : ∀ v W', Below W.heap.size W W' → R v W' → K (a.put o.dst v) W') : o.wp P a W K Q := by
  unfold Gives at h
  unfold Oper.wp
  generalize (execOp a.eval o).run P W = r at *
  cases r with
  | ok n w' =>
    cases n <;> simp only [Oper.upon] at h ⊢
    case value u => exact hk _ _ h.1 h.2
    case skip => exact hk _ _ h.1 h.2
    case enter f args =>
      refine h.2.mono fun e w'' ⟨v, he, hb, hr⟩ => ?_
      subst he
      exact hk _ _ (ext_trans h.1 hb) hr
  | halt x w' => cases h

theorem Gives.of_eval {P : Program} {o : Oper} {a a' : Act} {W : World} {R : Value → World → Prop} (h : Gives P o a W R) (he : execOp a'.eval o = execOp a.eval o) : Gives P o a' W R := by
  unfold Gives at *
  rwa [he]

section
variable {P : Program} {ops : Array Oper}

/-- The last of the first m operations that p picks and that write slot t. -/
def lastW (ops : Array Oper) (p : Nat → Bool) (t : Tmp) : Nat → Option Nat
  | 0 => none
  | m + 1 => if p m = true ∧ (ops[m]?).bind (·.dst) = some t then some m else lastW ops p t m

theorem lastW_some {p : Nat → Bool} {t : Tmp} : ∀ {m j : Nat}, lastW ops p t m = some j → j < m ∧ p j = true ∧ (ops[j]?).bind (·.dst) = some t ∧ ∀ k, j < k → k < m → ¬ (p k = true ∧ (ops[k]?).bind (·.dst) = some t)
  | 0, _, h => by cases h
  | m + 1, j, h => by
    unfold lastW at h
    split at h
    · rename_i hp
      obtain rfl : m = j := by simpa using h
      exact ⟨by omega, hp.1, hp.2, fun k h1 h2 => by omega⟩
    · rename_i hp
      obtain ⟨h1, h2, h3, h4⟩ := lastW_some h
      refine ⟨by omega, h2, h3, fun k hk hk' => ?_⟩
      by_cases e : k = m
      · subst e; exact hp
      · exact h4 k hk (by omega)

theorem lastW_none {p : Nat → Bool} {t : Tmp} : ∀ {m : Nat}, lastW ops p t m = none → ∀ k, k < m → ¬ (p k = true ∧ (ops[k]?).bind (·.dst) = some t)
  | 0, _, k, hk => by omega
  | m + 1, h, k, hk => by
    unfold lastW at h
    split at h
    · cases h
    · rename_i hp
      by_cases e : k = m
      · subst e; exact hp
      · exact lastW_none h k (by omega)

theorem lastW_eq {p q : Nat → Bool} {t : Tmp} {m n : Nat}
    (h : ∀ j, (j < m ∧ p j = true ∧ (ops[j]?).bind (·.dst) = some t) ↔ (j < n ∧ q j = true ∧ (ops[j]?).bind (·.dst) = some t)) : lastW ops p t m = lastW ops q t n := by
  cases h1 : lastW ops p t m with
  | none =>
    cases h2 : lastW ops q t n with
    | none => rfl
    | some j =>
      obtain ⟨a1, a2, a3, _⟩ := lastW_some h2
      obtain ⟨b1, b2, b3⟩ := (h j).2 ⟨a1, a2, a3⟩
      exact absurd ⟨b2, b3⟩ (lastW_none h1 j b1)
  | some i =>
    obtain ⟨a1, a2, a3, a4⟩ := lastW_some h1
    obtain ⟨b1, b2, b3⟩ := (h i).1 ⟨a1, a2, a3⟩
    cases h2 : lastW ops q t n with
    | none => exact absurd ⟨b2, b3⟩ (lastW_none h2 i b1)
    | some j =>
      obtain ⟨c1, c2, c3, c4⟩ := lastW_some h2
      obtain ⟨d1, d2, d3⟩ := (h j).2 ⟨c1, c2, c3⟩
      congr 1
      rcases Nat.lt_trichotomy i j with hl | hl | hl
      · exact absurd ⟨d2, d3⟩ (a4 j hl d1)
      · exact hl
      · exact absurd ⟨b2, b3⟩ (c4 i hl b1)

/-- What slot t holds once the operations that p picks, of the first m, have laid their values. -/
def slotOf (ops : Array Oper) (p : Nat → Bool) (vs : Nat → Value) (a : Act) (m : Nat) (t : Tmp) : Option Value :=
  match lastW ops p t m with
  | none => a.tmps[t]?
  | some j => if t < a.tmps.size then some (vs j) else none

/-- The first m operations' values, laid in the order of the text. -/
def lay (ops : Array Oper) (vs : Nat → Value) (a : Act) : Nat → Act
  | 0 => a
  | m + 1 => (lay ops vs a m).put ((ops[m]?).bind (·.dst)) (vs m)

theorem put_size (a : Act) (d : Option Tmp) (v : Value) : (a.put d v).tmps.size = a.tmps.size := by
  cases d <;> simp [Act.put]
theorem put_defers (a : Act) (d : Option Tmp) (v : Value) : (a.put d v).defers = a.defers := by
  cases d <;> rfl
theorem put_get (a : Act) (d : Option Tmp) (v : Value) (t : Tmp) : (a.put d v).tmps[t]? = if d = some t then (if t < a.tmps.size then some v else none) else a.tmps[t]? := by
  cases d with
  | none => simp [Act.put]
  | some e =>
    by_cases h : e = t
    · subst h; simp [Act.put, Array.getElem?_setIfInBounds]
    · simp [Act.put, h, Array.getElem?_setIfInBounds_ne h]

theorem lay_size (vs : Nat → Value) (a : Act) : ∀ m, (lay ops vs a m).tmps.size = a.tmps.size
  | 0 => rfl
  | m + 1 => by rw [lay, put_size, lay_size vs a m]
theorem lay_defers (vs : Nat → Value) (a : Act) : ∀ m, (lay ops vs a m).defers = a.defers
  | 0 => rfl
  | m + 1 => by rw [lay, put_defers, lay_defers vs a m]
theorem lay_get (vs : Nat → Value) (a : Act) (t : Tmp) : ∀ m : Nat, (lay ops vs a m).tmps[t]? = slotOf ops (fun _ => true) vs a m t
  | 0 => rfl
  | m + 1 => by
    rw [lay, put_get, lay_size]
    unfold slotOf lastW
    by_cases h : (ops[m]?).bind (·.dst) = some t
    · simp [h]
    · simp only [h, and_false, if_false]; exact lay_get vs a t m

theorem act_ext {a b : Act} (h : ∀ t : Nat, a.tmps[t]? = b.tmps[t]?) (hd : a.defers = b.defers) : a = b := by
  cases a; cases b
  simp only at h hd
  rw [Array.ext_getElem? h, hd]

theorem eval_congr {a b : Act} {l : List Tmp} (h : ∀ t ∈ l, a.tmps[t]? = b.tmps[t]?) (x : Operand) (hx : ∀ t, x = .tmp t → t ∈ l) : a.eval x = b.eval x := by
  cases x with
  | tmp t => have := h t (hx t rfl); simp [Act.eval, Array.getD_eq_getD_getElem?, this]
  | _ => rfl

theorem exec_congr {a b : Act} {o : Oper} (hs : ∀ cs t, o.op ≠ .select cs t) (h : ∀ t ∈ o.looksAt ops, a.tmps[t]? = b.tmps[t]?) : execOp a.eval o = execOp b.eval o :=
  execOp_congr o hs fun x hx => eval_congr h x fun t ht => by
    unfold Oper.looksAt
    refine List.mem_append_left _ (List.mem_filterMap.2 ⟨x, by simpa using hx, by rw [ht]⟩)

theorem wanted_congr {a b : Act} {o : Oper} (h : ∀ t ∈ o.looksAt ops, a.tmps[t]? = b.tmps[t]?) : Region.wanted o (yielded ops a.tmps) = Region.wanted o (yielded ops b.tmps) := by
  unfold Region.wanted
  cases hg : o.guard with
  | none => rfl
  | some g =>
    obtain ⟨j, want⟩ := g
    simp only
    congr 1
    unfold yielded
    cases hd : (ops[j]?).bind (·.dst) with
    | none => rfl
    | some d =>
      simp only [Option.bind_some]
      rw [h d (by unfold Oper.looksAt; refine List.mem_append_right _ ?_; simp [hg, hd])]

/-- What is laid of an operation: a known value, or what holds of it. -/
def holdsOf : Value ⊕ (Value → World → Prop) → Value → World → Prop
  | .inl v, u, _ => u = v
  | .inr R, u, W => R u W

/-- The slots that an operation looks at, each written by none of the others, or by one that it waits for (or that waits for it). -/
def tidyB (ops : Array Oper) (n : Nat) : Bool :=
  (List.range n).all fun i => (List.range n).all fun j =>
    match ops[i]?, ops[j]? with
    | some oi, some oj => match oj.dst with
      | none => true
      | some d =>
        if i = j then !(oi.looksAt ops).contains d
        else if (oi.looksAt ops).contains d || oi.dst == some d then (if i < j then Region.waitsFor .any ops j i else Region.waitsFor .any ops i j) else true
    | _, _ => false

/-- Operations wait for earlier ones alone. -/
def backB (ops : Array Oper) (n : Nat) : Bool :=
  (List.range n).all fun i => match ops[i]? with
    | some o => o.after.all fun e => !Region.binds .any e || decide (e.on < i)
    | none => false

/-- All that the theorem asks of the region itself. -/
def partsB (ops : Array Oper) (n : Nat) : Bool :=
  Region.noSelect ops && tidyB ops n && backB ops n && decide (n ≤ ops.size) && (decide (n = ops.size) || (Region.sinkB .any ops n && Region.chainB .any ops n)) &&
    Region.seqB .any ops (ops.size - n) n ((Array.range ops.size).map fun j => decide (j < n))

end
section
variable {P : Program} {ops : Array Oper}

theorem tidy_spec {n : Nat} (h : tidyB ops n = true) {i j : Nat} {oi oj : Oper} {d : Tmp} (hi : i < n) (hj : j < n) (hoi : ops[i]? = some oi) (hoj : ops[j]? = some oj) (hd : oj.dst = some d)
    (hl : d ∈ oi.looksAt ops ∨ (oi.dst = some d ∧ i ≠ j)) : i ≠ j ∧ (i < j → Region.waitsFor .any ops j i = true) ∧ (j < i → Region.waitsFor .any ops i j = true) := by
  have h1 := List.all_eq_true.1 (List.all_eq_true.1 h i (List.mem_range.2 hi)) j (List.mem_range.2 hj)
  simp only [hoi, hoj, hd] at h1
  by_cases e : i = j
  · subst e
    simp only [if_true] at h1
    rcases hl with hl | ⟨_, hl⟩
    · simp [hl] at h1
    · exact absurd rfl hl
  · have hc : ((oi.looksAt ops).contains d || oi.dst == some d) = true := by
      rcases hl with hl | ⟨hl, _⟩
      · simp [hl]
      · simp [hl]
    simp only [e, if_false, hc, if_true] at h1
    refine ⟨e, fun hlt => by simpa [hlt] using h1, fun hlt => ?_⟩
    have : ¬ i < j := by omega
    simpa [this] using h1

/-- What holds at any point while the first n operations are carried out: 'listed' have been. -/
structure Mid (ops : Array Oper) (n : Nat) (ps : Nat → Value ⊕ (Value → World → Prop)) (a0 : Act) (w0 : World) (listed : Array Bool) (vs : Nat → Value) (a : Act) (W : World) : Prop where
  ext : Below w0.heap.size w0 W
  size : a.tmps.size = a0.tmps.size
  defers : a.defers = a0.defers
  slots : ∀ t : Nat, a.tmps[t]? = slotOf ops (fun j => listed.getD j false) vs a0 n t
  held : ∀ j, j < n → listed.getD j false = true → holdsOf (ps j) (vs j) W

/-- The facts that operation i may use: of the operations whose slots it looks at. -/
def depsHold (ops : Array Oper) (ps : Nat → Value ⊕ (Value → World → Prop)) (vs : Nat → Value) (o : Oper) (W : World) : Nat → Prop
  | 0 => True
  | m + 1 => (match (ops[m]?).bind (·.dst) with
      | none => True
      | some d => if (o.looksAt ops).contains d then holdsOf (ps m) (vs m) W else True) ∧ depsHold ops ps vs o W m

theorem depsHold_of {ps : Nat → Value ⊕ (Value → World → Prop)} {vs : Nat → Value} {o : Oper} {W : World} : ∀ m, (∀ j d, j < m → (ops[j]?).bind (·.dst) = some d → d ∈ o.looksAt ops → holdsOf (ps j) (vs j) W) → depsHold ops ps vs o W m
  | 0, _ => trivial
  | m + 1, h => by
    refine ⟨?_, depsHold_of m fun j d hj => h j d (by omega)⟩
    split
    · trivial
    · rename_i d hd
      split
      · rename_i hc
        exact h m d (by omega) hd (by simpa using hc)
      · trivial

/-- What is asked of operation i: in every later world in which the facts of what it looks at hold. -/
def stepFor (P : Program) (ops : Array Oper) (ps : Nat → Value ⊕ (Value → World → Prop)) (a0 : Act) (w0 : World) (vs : Nat → Value) (i : Nat) : Prop :=
  match ops[i]? with
  | none => True
  | some o => ∀ W, Below w0.heap.size w0 W → depsHold ops ps vs o W i →
      if Region.wanted o (yielded ops (lay ops vs a0 i).tmps) then Gives P o (lay ops vs a0 i) W (holdsOf (ps i)) else holdsOf (ps i) undef W

/-- All that stands behind: once all have been carried out. -/
def allHold (ps : Nat → Value ⊕ (Value → World → Prop)) (vs : Nat → Value) (W : World) : Nat → Prop
  | 0 => True
  | m + 1 => holdsOf (ps m) (vs m) W ∧ allHold ps vs W m

theorem allHold_of {ps : Nat → Value ⊕ (Value → World → Prop)} {vs : Nat → Value} {W : World} : ∀ m, (∀ j, j < m → holdsOf (ps j) (vs j) W) → allHold ps vs W m
  | 0, _ => trivial
  | m + 1, h => ⟨h m (by omega), allHold_of m fun j hj => h j (by omega)⟩

theorem mid_step {n : Nat} {ps : Nat → Value ⊕ (Value → World → Prop)} {a0 : Act} {w0 : World} {listed : Array Bool} {vs : Nat → Value} {a : Act} {W : World} {Q : Exit → Act → World → Prop}
    (hB : tidyB ops n = true) (hsel : Region.noSelect ops = true) (hst : ∀ j R, ps j = .inr R → ∀ v W W', R v W → Below W.heap.size W W' → R v W')
    (hop : ∀ vs i, i < n → stepFor P ops ps a0 w0 vs i) (inv : HeadInv .any ops n listed) (mid : Mid ops n ps a0 w0 listed vs a W)
    {i : Nat} (hr : i ∈ Region.ready .any ops listed) (hin : i < n) {K : Act → World → Prop}
    (hk : ∀ vs a W, HeadInv .any ops n (listed.setIfInBounds i true) → Mid ops n ps a0 w0 (listed.setIfInBounds i true) vs a W → K a W) : wpOp P ops Q i K a W := by
  obtain ⟨hun, oi, hoi, hall⟩ := mem_ready.1 hr
  have hunf : listed.getD i false = false := getD_both hun
  have hisz : i < listed.size := by rw [inv.size]; exact (Array.getElem?_eq_some_iff.1 hoi).1
  -- what a listed operation has to do with i
  have later : ∀ j oj d, j < n → ops[j]? = some oj → oj.dst = some d → listed.getD j false = true → (d ∈ oi.looksAt ops ∨ oi.dst = some d) → j < i := by
    intro j oj d hj hoj hd hl hlook
    have hji : i ≠ j := fun e => by subst e; rw [hunf] at hl; cases hl
    obtain ⟨_, h1, _⟩ := tidy_spec hB hin hj hoi hoj hd (hlook.imp id fun h => ⟨h, hji⟩)
    rcases Nat.lt_trichotomy i j with h | h | h
    · obtain ⟨oj', hoj', e, he, hb, hon⟩ := Region.waitsFor_spec (h1 h)
      have := inv.closed j oj' hoj' hl e he hb
      rw [hon, hunf] at this
      cases this
    · exact absurd h hji
    · exact h
  have early : ∀ j oj d, j < i → ops[j]? = some oj → oj.dst = some d → (d ∈ oi.looksAt ops) → listed.getD j false = true := by
    intro j oj d hj hoj hd hlook
    obtain ⟨_, _, h2⟩ := tidy_spec hB hin (by omega) hoi hoj hd (.inl hlook)
    obtain ⟨oi', hoi', e, he, hb, hon⟩ := Region.waitsFor_spec (h2 hj)
    have : oi' = oi := Option.some.inj (hoi'.symm.trans hoi)
    subst this
    have := hall e he hb
    rwa [hon] at this
  have looks : ∀ t ∈ oi.looksAt ops, (lay ops vs a0 i).tmps[t]? = a.tmps[t]? := by
    intro t ht
    rw [lay_get, mid.slots t]
    unfold slotOf
    rw [lastW_eq (ops := ops) (t := t) (p := fun _ => true) (q := fun j => listed.getD j false) (m := i) (n := n) ?_]
    intro j
    constructor
    · rintro ⟨h1, _, h3⟩
      obtain ⟨oj, hoj, hd⟩ := Option.bind_eq_some_iff.1 h3
      exact ⟨by omega, early j oj t h1 hoj hd ht, h3⟩
    · rintro ⟨h1, h2, h3⟩
      obtain ⟨oj, hoj, hd⟩ := Option.bind_eq_some_iff.1 h3
      exact ⟨later j oj t h1 hoj hd h2 (.inl ht), rfl, h3⟩
  have hdeps : depsHold ops ps vs oi W i := depsHold_of i fun j d hj hd hl => by
    obtain ⟨oj, hoj, hd'⟩ := Option.bind_eq_some_iff.1 hd
    exact mid.held j (by omega) (early j oj d hj hoj hd' hl)
  have hs := hop vs i hin
  unfold stepFor at hs
  simp only [hoi] at hs
  have hs := hs W mid.ext hdeps
  rw [wanted_congr looks] at hs
  have next : ∀ v W', Below W.heap.size W W' → holdsOf (ps i) v W' → K (a.put oi.dst v) W' := by
    intro v W' hb hv
    refine hk (fun j => if j = i then v else vs j) _ W' (inv.set hr hin) ⟨ext_trans mid.ext hb, by rw [put_size, mid.size], by rw [put_defers, mid.defers], fun t => ?_, fun j hj hl => ?_⟩
    · rw [put_get, mid.size]
      unfold slotOf
      by_cases hd : oi.dst = some t
      · simp only [hd, if_true]
        have : lastW ops (fun j => (listed.setIfInBounds i true).getD j false) t n = some i := by
          cases hc : lastW ops (fun j => (listed.setIfInBounds i true).getD j false) t n with
          | none => exact absurd ⟨by simp [hisz], by simp [hoi, hd]⟩ (lastW_none hc i hin)
          | some j =>
            obtain ⟨c1, c2, c3, c4⟩ := lastW_some hc
            obtain ⟨oj, hoj, hdj⟩ := Option.bind_eq_some_iff.1 c3
            by_cases e : j = i
            · rw [e]
            · have hlj : listed.getD j false = true := by rwa [getD_set_ne false (Ne.symm e)] at c2
              have := later j oj t c1 hoj hdj hlj (.inr hd)
              exact absurd ⟨by simp [hisz], by simp [hoi, hd]⟩ (c4 i this hin)
        rw [this]
        simp
      · simp only [hd, if_false]
        rw [mid.slots t]
        unfold slotOf
        have : lastW ops (fun j => (listed.setIfInBounds i true).getD j false) t n = lastW ops (fun j => listed.getD j false) t n := by
          refine lastW_eq fun j => ?_
          by_cases e : j = i
          · subst e; simp [hoi, hd]
          · rw [getD_set_ne false (Ne.symm e)]
        rw [this]
        cases hc : lastW ops (fun j => listed.getD j false) t n with
        | none => rfl
        | some j =>
          obtain ⟨c1, c2, c3, c4⟩ := lastW_some hc
          have e : j ≠ i := fun e => by subst e; simp [hoi, hd] at c3
          simp [e]
    · by_cases e : j = i
      · subst e; simpa using hv
      · simp only [e, if_false]
        have hl' : listed.getD j false = true := by rwa [getD_set_ne false (Ne.symm e)] at hl
        have h1 := mid.held j hj hl'
        cases hp : ps j with
        | inl u => simpa [hp, holdsOf] using h1
        | inr R => simp only [hp, holdsOf] at h1 ⊢; exact hst j R hp _ _ _ h1 hb
  unfold wpOp
  simp only [hoi]
  split
  · rename_i hw
    simp only [hw, if_true] at hs
    exact .inl (wp_of_gives (hs.of_eval (exec_congr (fun cs b => Region.noSelect_spec hsel i oi cs b hoi) (fun t ht => (looks t ht).symm))) next)
  · rename_i hw
    simp only [hw] at hs
    exact next _ _ (Below.refl _ _) (by simpa using hs)


def cnt (listed : Array Bool) : Nat → Nat
  | 0 => 0
  | m + 1 => cnt listed m + if listed.getD m false then 0 else 1

theorem cnt_far (listed : Array Bool) (i : Nat) : ∀ m, m ≤ i → cnt (listed.setIfInBounds i true) m = cnt listed m
  | 0, _ => rfl
  | m + 1, h => by rw [cnt, cnt, cnt_far listed i m (by omega), getD_set_ne false (show i ≠ m by omega)]

theorem cnt_set (listed : Array Bool) (i : Nat) (hi : i < listed.size) (hu : listed.getD i false = false) : ∀ m, i < m → cnt (listed.setIfInBounds i true) m + 1 = cnt listed m
  | 0, h => by omega
  | m + 1, h => by
    rw [cnt, cnt]
    by_cases e : i = m
    · subst e; rw [cnt_far _ _ _ (Nat.le_refl _), hu]; simp [hi]
    · have := cnt_set listed i hi hu m (by omega)
      rw [getD_set_ne false e]; omega

theorem cnt_zero (listed : Array Bool) : ∀ m, cnt listed m = 0 → ∀ j, j < m → listed.getD j false = true
  | 0, _, j, h => by omega
  | m + 1, h, j, hj => by
    rw [cnt] at h
    by_cases e : j = m
    · subst e
      cases hl : listed.getD j false with
      | true => rfl
      | false => simp [hl] at h
    · exact cnt_zero listed m (by omega) j (by omega)

theorem least_unlisted (listed : Array Bool) : ∀ m, cnt listed m ≠ 0 → ∃ i, i < m ∧ listed.getD i false = false ∧ ∀ k, k < i → listed.getD k false = true
  | 0, h => absurd rfl h
  | m + 1, h => by
    by_cases e : cnt listed m = 0
    · rw [cnt, e] at h
      refine ⟨m, by omega, ?_, cnt_zero listed m e⟩
      cases hl : listed.getD m false with
      | true => simp [hl] at h
      | false => rfl
    · obtain ⟨i, h1, h2, h3⟩ := least_unlisted listed m e
      exact ⟨i, by omega, h2, h3⟩

theorem wpAny_of_mid {n : Nat} {ps : Nat → Value ⊕ (Value → World → Prop)} {a0 : Act} {w0 : World} {Q : Exit → Act → World → Prop} {l : List Oper}
    (hl : ∀ j : Nat, l[j]? = ops[n + j]?) (hll : l.length = ops.size - n)
    (hB : partsB ops n = true) (hst : ∀ j R, ps j = .inr R → ∀ v W W', R v W → Below W.heap.size W W' → R v W')
    (hop : ∀ vs i, i < n → stepFor P ops ps a0 w0 vs i)
    (hend : ∀ vs W, Below w0.heap.size w0 W → allHold ps vs W n → wpList P ops Q l (lay ops vs a0 n) W) :
    ∀ (f : Nat) (listed : Array Bool) (vs : Nat → Value) (a : Act) (W : World), HeadInv .any ops n listed → Mid ops n ps a0 w0 listed vs a W → cnt listed n = f →
      wpAny P .any ops Q (f + (ops.size - n)) listed a W := by
  simp only [partsB, Bool.and_eq_true, decide_eq_true_eq] at hB
  obtain ⟨⟨⟨⟨⟨hsel, htidy⟩, hback⟩, hn⟩, htail0⟩, hseq⟩ := hB
  have htail : n = ops.size ∨ (Region.sinkB .any ops n = true ∧ Region.chainB .any ops n = true) := by simpa using htail0
  intro f
  induction f with
  | zero =>
    intro listed vs a W inv mid hc
    have hall := cnt_zero listed n hc
    have hlisted : listed = (Array.range ops.size).map fun j => decide (j < n) := by
      apply Array.ext
      · simp [inv.size]
      · intro j h1 h2
        simp only [Array.getElem_map, Array.getElem_range]
        by_cases hj : j < n
        · have := hall j hj
          simp only [h1, Array.getD_eq_getD_getElem?, Array.getElem?_eq_getElem, Option.getD_some] at this
          simp [hj, this]
        · have := getD_both (inv.tail j (by omega) (by simpa using h2))
          simp only [h1, Array.getD_eq_getD_getElem?, Array.getElem?_eq_getElem, Option.getD_some] at this
          simp [hj, this]
    have ha : a = lay ops vs a0 n := act_ext (fun t => by
      rw [lay_get, mid.slots t]
      unfold slotOf
      rw [lastW_eq (ops := ops) (t := t) (p := fun j => listed.getD j false) (q := fun _ => true) (m := n) (n := n) ?_]
      intro j
      constructor
      · rintro ⟨h1, _, h3⟩; exact ⟨h1, rfl, h3⟩
      · rintro ⟨h1, _, h3⟩; exact ⟨h1, hall j h1, h3⟩) (by rw [mid.defers, lay_defers])
    have h := hend vs W mid.ext (allHold_of n fun j hj => mid.held j hj (hall j hj))
    rw [Nat.zero_add, ← hll]
    rw [← hlisted, ← hll] at hseq
    rw [ha]
    exact wpAny_of_seq l n listed _ W hl hseq h
  | succ f ih =>
    intro listed vs a W inv mid hc
    obtain ⟨i0, hi0, hu0, hlow⟩ := least_unlisted listed n (by omega)
    rw [show f + 1 + (ops.size - n) = (f + (ops.size - n)) + 1 by omega]
    refine ⟨fun h => ?_, fun i hi => ?_⟩
    · exfalso
      have h1 := List.all_eq_true.1 hback i0 (List.mem_range.2 hi0)
      cases ho : ops[i0]? with
      | none => simp [ho] at h1
      | some o =>
        simp only [ho] at h1
        have : i0 ∈ Region.ready .any ops listed := by
          refine mem_ready.2 ⟨getD_in (by rw [inv.size]; omega) hu0, o, ho, fun e he hb => ?_⟩
          have h2 := Array.all_eq_true'.1 h1 e he
          simp only [hb, Bool.not_true, Bool.false_or, decide_eq_true_eq] at h2
          exact hlow e.on h2
        rw [h] at this
        cases this
    · have hin : i < n := by
        rcases Nat.lt_or_ge i n with h | h
        · exact h
        · rcases htail with ht | ht
          · obtain ⟨_, o, ho, _⟩ := mem_ready.1 hi
            have := (Array.getElem?_eq_some_iff.1 ho).1
            omega
          · rcases Nat.lt_or_ge n ops.size with hns | hns
            · exact absurd hi (tail_waits ht.1 ht.2 hns inv _ i0 rfl hi0 (getD_in (by rw [inv.size]; omega) hu0) i h)
            · obtain ⟨_, o, ho, _⟩ := mem_ready.1 hi
              have := (Array.getElem?_eq_some_iff.1 ho).1
              omega
      have hun := (mem_ready.1 hi).1
      refine mid_step htidy hsel hst hop inv mid hi hin fun vs' a' W' inv' mid' => ih _ vs' a' W' inv' mid' ?_
      have := cnt_set listed i (by rw [inv.size]; omega) (getD_both hun) n hin
      omega

/-- **A region that draws its order.** Its first n operations yield, in whatever order, what 'ps' says of them, each in every later world, by the facts of the operations whose slots it looks at; what stands behind them comes in the order of the text. -/
theorem wp_region_parts {id : Nat} {ops : List Oper} {Q : Exit → Act → World → Prop} {a : Act} {w : World} (n : Nat) (ps : Nat → Value ⊕ (Value → World → Prop)) (hm : P.follows .mixedOrders = true) (hB : partsB ops.toArray n = true)
    (hst : ∀ j R, ps j = .inr R → ∀ v W W', R v W → Below W.heap.size W W' → R v W')
    (hop : ∀ vs i, i < n → stepFor P ops.toArray ps a w vs i)
    (hend : ∀ vs W, Below w.heap.size w W → allHold ps vs W n → wpList P ops.toArray Q (ops.drop n) (lay ops.toArray vs a n) W) : (Code.region id ops.toArray true).wp P Q a w := by
  have hn : n ≤ ops.toArray.size := by
    simp only [partsB, Bool.and_eq_true, decide_eq_true_eq] at hB
    exact hB.1.1.2
  have he : Below w.heap.size w { w with drawn := w.drawn + 1 } := (Below.refl _ _).drew
  have hc : ∀ m, cnt (Array.replicate ops.toArray.size false) m = m := fun m => by
    induction m with
    | zero => rfl
    | succ m ih => rw [cnt, ih, getD_replicate_false]; rfl
  refine wp_region_any hm ?_
  have := wpAny_of_mid (P := P) (ops := ops.toArray) (l := ops.drop n) (fun j => by simp [List.getElem?_drop]) (by simp) hB hst hop hend n (Array.replicate ops.toArray.size false) (fun _ => undef) a { w with drawn := w.drawn + 1 }
    ⟨by simp, fun j oj _ hl => (by rw [getD_replicate_false] at hl; cases hl), fun t _ ht => getD_in (by simpa using ht) (getD_replicate_false _ _)⟩
    ⟨he, rfl, rfl, fun t => ?_, fun j _ hl => (by rw [getD_replicate_false] at hl; cases hl)⟩ (hc n)
  · rwa [show n + (ops.toArray.size - n) = ops.toArray.size by omega] at this
  · unfold slotOf
    rw [show lastW ops.toArray (fun j => (Array.replicate ops.toArray.size false).getD j false) t n = none from ?_]
    cases h : lastW ops.toArray (fun j => (Array.replicate ops.toArray.size false).getD j false) t n with
    | none => rfl
    | some j => have := (lastW_some h).2.1; rw [getD_replicate_false] at this; cases this

end

section
variable {P : Program}

abbrev Piece := Value ⊕ (Value → World → Prop)

/-- The facts, among those at hand, of the slots that an operation looks at. -/
def near (ops : Array Oper) (o : Oper) : List (Tmp × (World → Prop)) → World → Prop
  | [], _ => True
  | g :: G, W => if (o.looksAt ops).contains g.1 then g.2 W ∧ near ops o G W else near ops o G W

def every : List (Tmp × (World → Prop)) → World → Prop
  | [], _ => True
  | g :: G, W => g.2 W ∧ every G W

/-- The walk in the order of the text. -/
def wpParts (P : Program) (ops : Array Oper) (w : World) (Q : Exit → Act → World → Prop) : List Oper → List Piece → List (Tmp × (World → Prop)) → Act → Prop
  | o :: os, .inl v :: ps, G, a =>
    (if Region.wanted o (yielded ops a.tmps) then (∀ W, Below w.heap.size w W → near ops o G W → Gives P o a W (fun u _ => u = v)) else undef = v) ∧ wpParts P ops w Q os ps G (a.put o.dst v)
  | o :: os, .inr R :: ps, G, a =>
    ((∀ v W W', R v W → Below W.heap.size W W' → R v W') ∧ Region.wanted o (yielded ops a.tmps) = true ∧ (∀ W, Below w.heap.size w W → near ops o G W → Gives P o a W R)) ∧
      ∀ u, wpParts P ops w Q os ps (match o.dst with | some d => (d, R u) :: G | none => G) (a.put o.dst u)
  | os, _, G, a => ∀ W, Below w.heap.size w W → every G W → wpList P ops Q os a W

end

section
variable {P : Program} {ops : Array Oper}

theorem depsHold_get {ps : Nat → Piece} {vs : Nat → Value} {o : Oper} {W : World} : ∀ {m : Nat}, depsHold ops ps vs o W m → ∀ j d, j < m → (ops[j]?).bind (·.dst) = some d → d ∈ o.looksAt ops → holdsOf (ps j) (vs j) W
  | 0, _, j, _, hj, _, _ => by omega
  | m + 1, h, j, d, hj, hd, hl => by
    obtain ⟨h1, h2⟩ := h
    by_cases e : j = m
    · subst e
      rw [hd] at h1
      have hc : (o.looksAt ops).contains d = true := by simpa using hl
      simpa only [hc, if_true] using h1
    · exact depsHold_get h2 j d (by omega) hd hl

theorem allHold_get {ps : Nat → Piece} {vs : Nat → Value} {W : World} : ∀ {m : Nat}, allHold ps vs W m → ∀ j, j < m → holdsOf (ps j) (vs j) W
  | 0, _, j, hj => by omega
  | m + 1, h, j, hj => by
    by_cases e : j = m
    · subst e; exact h.1
    · exact allHold_get h.2 j (by omega)

/-- The values, those that are known put in. -/
def fixed (ps : Nat → Piece) (vs : Nat → Value) (i : Nat) : Value :=
  match ps i with
  | .inl v => v
  | .inr _ => vs i

theorem fixed_eq {ps : Nat → Piece} {vs : Nat → Value} {i : Nat} {W : World} (h : holdsOf (ps i) (vs i) W) : fixed ps vs i = vs i := by
  unfold fixed holdsOf at *
  split <;> rename_i h'
  · rw [h'] at h; exact h.symm
  · rfl

/-- The facts at hand behind the first k operations. -/
def facts (ops : Array Oper) (ps : Nat → Piece) (vs : Nat → Value) : Nat → List (Tmp × (World → Prop))
  | 0 => []
  | k + 1 => match ps k with
    | .inl _ => facts ops ps vs k
    | .inr R => match (ops[k]?).bind (·.dst) with
      | some d => (d, R (vs k)) :: facts ops ps vs k
      | none => facts ops ps vs k

theorem near_of {ps : Nat → Piece} {vs : Nat → Value} {o : Oper} {W : World} : ∀ {k : Nat}, depsHold ops ps vs o W k → near ops o (facts ops ps vs k) W
  | 0, _ => trivial
  | k + 1, h => by
    have ih := near_of h.2
    unfold facts
    cases hp : ps k with
    | inl v => exact ih
    | inr R =>
      simp only
      cases hd : (ops[k]?).bind (·.dst) with
      | none => exact ih
      | some d =>
        simp only [near]
        by_cases hl : d ∈ o.looksAt ops
        · have h1 := depsHold_get h k d (by omega) hd hl
          rw [hp] at h1
          rw [if_pos (by simpa using hl)]
          exact ⟨h1, ih⟩
        · rw [if_neg (by simpa using hl)]
          exact ih

theorem every_of {ps : Nat → Piece} {vs : Nat → Value} {W : World} : ∀ {k : Nat}, allHold ps vs W k → every (facts ops ps vs k) W
  | 0, _ => trivial
  | k + 1, h => by
    have ih := every_of h.2
    unfold facts
    cases hp : ps k with
    | inl v => exact ih
    | inr R =>
      simp only
      cases hd : (ops[k]?).bind (·.dst) with
      | none => exact ih
      | some d =>
        have h1 := h.1
        rw [hp] at h1
        exact ⟨h1, ih⟩

/-- What the walk in the order of the text says of each operation, and of what stands behind. -/
theorem parts_spec {w : World} {Q : Exit → Act → World → Prop} {a : Act} {qs : Nat → Piece} (vs : Nat → Value) :
    ∀ (l : List Oper) (ps : List Piece) (k : Nat), (∀ j : Nat, l[j]? = ops[k + j]?) → (∀ j p, ps[j]? = some p → qs (k + j) = p) → ps.length ≤ l.length →
      wpParts P ops w Q l ps (facts ops qs vs k) (lay ops (fixed qs vs) a k) →
      (∀ i, k ≤ i → i < k + ps.length → ∃ o, ops[i]? = some o ∧ ∀ W, Below w.heap.size w W → near ops o (facts ops qs vs i) W →
        (if Region.wanted o (yielded ops (lay ops (fixed qs vs) a i).tmps) then Gives P o (lay ops (fixed qs vs) a i) W (holdsOf (qs i)) else holdsOf (qs i) undef W)) ∧
      (∀ i R, k ≤ i → i < k + ps.length → qs i = .inr R → ∀ v W W', R v W → Below W.heap.size W W' → R v W') ∧
      (∀ W, Below w.heap.size w W → every (facts ops qs vs (k + ps.length)) W → wpList P ops Q (l.drop ps.length) (lay ops (fixed qs vs) a (k + ps.length)) W)
  | l, [], k, _, _, _, h => by
    refine ⟨fun i h1 h2 => ?_, fun i R h1 h2 => ?_, ?_⟩
    · simp at h2; omega
    · simp at h2; omega
    · cases l <;> simpa [wpParts] using h
  | [], _ :: _, _, _, _, hlen, _ => by simp at hlen
  | o :: l, p :: ps, k, hl, hq, hlen, h => by
    have h0 : ops[k]? = some o := by simpa using (hl 0).symm
    have hp : qs k = p := by simpa using hq 0 p rfl
    have hb : (ops[k]?).bind (·.dst) = o.dst := by rw [h0]; rfl
    have rest := fun (h' : wpParts P ops w Q l ps (facts ops qs vs (k + 1)) (lay ops (fixed qs vs) a (k + 1))) => parts_spec vs l ps (k + 1) (fun j => by have := hl (j + 1); simpa [Nat.add_assoc, Nat.add_comm 1 j] using this)
      (fun j q hj => by have := hq (j + 1) q (by simpa using hj); simpa [Nat.add_assoc, Nat.add_comm 1 j] using this) (by simpa using hlen) h'
    have key : wpParts P ops w Q l ps (facts ops qs vs (k + 1)) (lay ops (fixed qs vs) a (k + 1)) ∧
        (∀ R, p = .inr R → ∀ v W W', R v W → Below W.heap.size W W' → R v W') ∧
        ∀ W, Below w.heap.size w W → near ops o (facts ops qs vs k) W →
          (if Region.wanted o (yielded ops (lay ops (fixed qs vs) a k).tmps) then Gives P o (lay ops (fixed qs vs) a k) W (holdsOf p) else holdsOf p undef W) := by
      cases p with
      | inl v =>
        obtain ⟨h1, h2⟩ := h
        have e : fixed qs vs k = v := by unfold fixed; rw [hp]
        refine ⟨by rw [facts, hp, lay, hb, e]; exact h2, (fun R hR => by cases hR), fun W hW hn => ?_⟩
        split
        · rename_i hw; rw [if_pos hw] at h1; exact h1 W hW hn
        · rename_i hw; rw [if_neg hw] at h1; exact h1
      | inr R =>
        obtain ⟨⟨h1, h3, h4⟩, h2⟩ := h
        have e : fixed qs vs k = vs k := by unfold fixed; rw [hp]
        refine ⟨?_, (fun R' hR => by cases hR; exact h1), fun W hW hn => by rw [if_pos h3]; exact h4 W hW hn⟩
        have := h2 (vs k)
        rw [facts, hp, lay, hb, e]
        cases hd : o.dst <;> simpa [hd] using this
    obtain ⟨r1, r2, r3⟩ := rest key.1
    have hl' : k + (p :: ps).length = k + 1 + ps.length := by simp; omega
    refine ⟨fun i h1 h2 => ?_, fun i R h1 h2 hR => ?_, ?_⟩
    · by_cases e : i = k
      · subst e; exact ⟨o, h0, by rw [hp]; exact key.2.2⟩
      · exact r1 i (by omega) (by omega)
    · by_cases e : i = k
      · subst e; exact key.2.1 R (by rw [← hp, hR])
      · exact r2 i R (by omega) (by omega) hR
    · rw [hl']; simpa using r3

/-- **A region that draws its order**, walked in the order of the text: 'ps' says of each of its first operations what it yields. -/
theorem wp_region_seq {id : Nat} {l : List Oper} {Q : Exit → Act → World → Prop} {a : Act} {w : World} (ps : List Piece) (hm : P.follows .mixedOrders = true) (hB : partsB l.toArray ps.length = true)
    (h : wpParts P l.toArray w Q l ps [] a) : (Code.region id l.toArray true).wp P Q a w := by
  have hn : ps.length ≤ l.length := by
    simp only [partsB, Bool.and_eq_true, decide_eq_true_eq] at hB
    simpa using hB.1.1.2
  have spec := fun vs => parts_spec (P := P) (ops := l.toArray) (w := w) (Q := Q) (a := a) (qs := fun i => (ps[i]?).getD (.inl undef)) vs l ps 0 (fun j => by simp) (fun j p hj => by simp [hj]) hn h
  refine wp_region_parts ps.length (fun i => (ps[i]?).getD (.inl undef)) hm hB ?_ ?_ ?_
  · intro j R hj
    by_cases hlt : j < ps.length
    · exact (spec (fun _ => undef)).2.1 j R (by omega) (by omega) hj
    · have : ps[j]? = none := by simp; omega
      simp [this] at hj
  · intro vs i hi
    unfold stepFor
    obtain ⟨o, ho, hs⟩ := (spec vs).1 i (by omega) (by omega)
    rw [ho]
    intro W hW hd
    have hs := hs W hW (near_of hd)
    have looks : ∀ t ∈ o.looksAt l.toArray, (lay l.toArray (fixed (fun i => (ps[i]?).getD (.inl undef)) vs) a i).tmps[t]? = (lay l.toArray vs a i).tmps[t]? := by
      intro t ht
      rw [lay_get, lay_get]
      unfold slotOf
      cases hc : lastW l.toArray (fun _ => true) t i with
      | none => rfl
      | some j =>
        obtain ⟨c1, _, c3, _⟩ := lastW_some hc
        simp only
        rw [fixed_eq (depsHold_get hd j t c1 c3 ht)]
    rw [wanted_congr looks] at hs
    simp only
    split
    · rename_i hw; rw [if_pos hw] at hs
      refine hs.of_eval (exec_congr (fun cs b => Region.noSelect_spec (by simp only [partsB, Bool.and_eq_true] at hB; exact hB.1.1.1.1.1) i o cs b ho) (fun t ht => (looks t ht).symm))
    · rename_i hw; rw [if_neg hw] at hs; exact hs
  · intro vs W hW hall
    have := (spec vs).2.2 W hW (every_of (by simpa using hall))
    have e : lay l.toArray (fixed (fun i => (ps[i]?).getD (.inl undef)) vs) a ps.length = lay l.toArray vs a ps.length := act_ext (fun t => by
      rw [lay_get, lay_get]
      unfold slotOf
      cases hc : lastW l.toArray (fun _ => true) t ps.length with
      | none => rfl
      | some j =>
        obtain ⟨c1, _, _, _⟩ := lastW_some hc
        simp only
        rw [fixed_eq (allHold_get hall j c1)]) (by rw [lay_defers, lay_defers])
    rw [Nat.zero_add, e] at this
    exact this

end

section
variable {P : Program} {ops : Array Oper} {w : World} {Q : Exit → Act → World → Prop} {o : Oper} {os : List Oper} {ps : List Piece} {G : List (Tmp × (World → Prop))} {a : Act}

/-- One operation, whose value is known. -/
theorem wpParts_det {v : Value} (hw : Region.wanted o (yielded ops a.tmps) = true) (h : ∀ W, Below w.heap.size w W → near ops o G W → Gives P o a W (fun u _ => u = v))
    (hr : wpParts P ops w Q os ps G (a.put o.dst v)) : wpParts P ops w Q (o :: os) (.inl v :: ps) G a := by
  unfold wpParts
  rw [if_pos hw]
  exact ⟨h, hr⟩

/-- One operation that is passed over. -/
theorem wpParts_skip (hw : Region.wanted o (yielded ops a.tmps) = false) (hr : wpParts P ops w Q os ps G (a.put o.dst undef)) : wpParts P ops w Q (o :: os) (.inl undef :: ps) G a := by
  unfold wpParts
  rw [if_neg (by rw [hw]; exact Bool.false_ne_true)]
  exact ⟨rfl, hr⟩

/-- One operation of whose value something is known. -/
theorem wpParts_any {d : Tmp} {R : Value → World → Prop} (hd : o.dst = some d) (hst : ∀ v W W', R v W → Below W.heap.size W W' → R v W') (hw : Region.wanted o (yielded ops a.tmps) = true)
    (h : ∀ W, Below w.heap.size w W → near ops o G W → Gives P o a W R) (hr : ∀ u, wpParts P ops w Q os ps ((d, R u) :: G) (a.put (some d) u)) : wpParts P ops w Q (o :: os) (.inr R :: ps) G a := by
  unfold wpParts
  refine ⟨⟨hst, hw, h⟩, fun u => ?_⟩
  simp only [hd]
  exact hr u

theorem wpParts_end (h : ∀ W, Below w.heap.size w W → every G W → wpList P ops Q os a W) : wpParts P ops w Q os [] G a := by
  cases os <;> (unfold wpParts; exact h)

end

/-- Where two ways give a Bool each: one way, the test as a Bool. -/
theorem ite_val (p : Prop) [Decidable p] (W : World) (b : Bool) : (if p then (Result.ok (Next.value (.bool b)) W) else (Result.ok (Next.value (.bool false)) W)) = Result.ok (Next.value (.bool (decide p && b))) W := by
  by_cases h : p <;> simp [h]
theorem ite_val_true (p : Prop) [Decidable p] (W : World) : (if p then (Result.ok (Next.value (.bool true)) W) else (Result.ok (Next.value (.bool false)) W)) = Result.ok (Next.value (.bool (decide p))) W := by
  by_cases h : p <;> simp [h]
end Go.Dav
