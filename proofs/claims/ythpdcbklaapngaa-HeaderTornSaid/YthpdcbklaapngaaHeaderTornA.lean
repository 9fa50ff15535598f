/-
  A region that draws its order: one set of facts, one for each operation, serves every order.
  Blocks of cells, each known whole: what a call, a new block, a store leaves of them.
  Files, in plain: bytes that stay, pieces that may be lost; what each operation makes of them.
  How the arguments of a law are opened: slices of structs, structs of five and six fields.
  How the statements' arguments are opened: bytes, pieces, files.
  A region that draws its order, in which some operations (a part of a tuple, a copy) may also come after the stores at its end.
-/
import Derived.StillTail
import Derived.Below
import Derived.KernelRfl
import Derived.WalkKit
import Derived.Deep.Draws
import Derived.Lib.Hide
import Derived.Laws.AppendOwn
import Derived.Deep.Slices
import Derived.Deep.Fields
import Derived.ChangeSame
import Derived.Lib.SmallJoins
import Derived.ProofKit
import Derived.Test.YthpdcbklaapngaaRows
import Derived.OpenShut
import Derived.ShutString
import Derived.ChangeOld
import Derived.SizedLaws
namespace Go.Dav
set_option linter.unusedVariables false
set_option linter.unusedSimpArgs false
open Go Go.RowKit

/-- The operation, carried out in W, yields a value for which R holds, and a world that has only grown. -/
def Gives (P : Program) (o : Oper) (a : Act) (W : World) (R : Value → World → Prop) : Prop :=
  match (execOp a.eval o).run P W with
  | .ok (.value u) W' => Below W.heap.size W W' ∧ R u W'
  | .ok .skip W' => Below W.heap.size W W' ∧ R undef W'
  | .ok (.enter f args) W' => Below W.heap.size W W' ∧ Calls P f args W' (fun e W'' => ∃ v, e = .returned v ∧ Below W'.heap.size W' W'' ∧ R v W'')
  | _ => False

theorem ext_trans {a b c : World} (h : Below a.heap.size a b) (k : Below b.heap.size b c) : Below a.heap.size a c := h.trans (k.mono h.size)

theorem wp_of_gives {P : Program} {o : Oper} {a : Act} {W : World} {R : Value → World → Prop} {K : Act → World → Prop} {Q : Exit → Act → World → Prop}
    (h : Gives P o a W R) (hk : ∀ v W', Below W.heap.size W W' → R v W' → K (a.put o.dst v) W') : o.wp P a W K Q := by
  unfold Gives at h
  unfold Oper.wp
  generalize (execOp a.eval o).run P W = r at *
  cases r with
  | ok n w' =>
    cases n <;> simp only [Oper.upon] at h ⊢
    case value u => exact hk _ _ h.1 h.2
    case skip => exact hk _ _ h.1 h.2
    case enter f args =>
      refine h.2.mono fun e w'' ⟨v, he, hb, hr⟩ => ?_
      subst he
      exact hk _ _ (ext_trans h.1 hb) hr
  | halt x w' => cases h

theorem Gives.of_eval {P : Program} {o : Oper} {a a' : Act} {W : World} {R : Value → World → Prop} (h : Gives P o a W R) (he : execOp a'.eval o = execOp a.eval o) : Gives P o a' W R := by
  unfold Gives at *
  rwa [he]

section
variable {P : Program} {ops : Array Oper}

/-- The last of the first m operations that p picks and that write slot t. -/
def lastW (ops : Array Oper) (p : Nat → Bool) (t : Tmp) : Nat → Option Nat
  | 0 => none
  | m + 1 => if p m = true ∧ (ops[m]?).bind (·.dst) = some t then some m else lastW ops p t m

theorem lastW_some {p : Nat → Bool} {t : Tmp} : ∀ {m j : Nat}, lastW ops p t m = some j → j < m ∧ p j = true ∧ (ops[j]?).bind (·.dst) = some t ∧ ∀ k, j < k → k < m → ¬ (p k = true ∧ (ops[k]?).bind (·.dst) = some t)
  | 0, _, h => by cases h
  | m + 1, j, h => by
    unfold lastW at h
    split at h
    · rename_i hp
      obtain rfl : m = j := by simpa using h
      exact ⟨by omega, hp.1, hp.2, fun k h1 h2 => by omega⟩
    · rename_i hp
      obtain ⟨h1, h2, h3, h4⟩ := lastW_some h
      refine ⟨by omega, h2, h3, fun k hk hk' => ?_⟩
      by_cases e : k = m
      · subst e; exact hp
      · exact h4 k hk (by omega)

theorem lastW_none {p : Nat → Bool} {t : Tmp} : ∀ {m : Nat}, lastW ops p t m = none → ∀ k, k < m → ¬ (p k = true ∧ (ops[k]?).bind (·.dst) = some t)
  | 0, _, k, hk => by omega
  | m + 1, h, k, hk => by
    unfold lastW at h
    split at h
    · cases h
    · rename_i hp
      by_cases e : k = m
      · subst e; exact hp
      · exact lastW_none h k (by omega)

theorem lastW_eq {p q : Nat → Bool} {t : Tmp} {m n : Nat}
    (h : ∀ j, (j < m ∧ p j = true ∧ (ops[j]?).bind (·.dst) = some t) ↔ (j < n ∧ q j = true ∧ (ops[j]?).bind (·.dst) = some t)) : lastW ops p t m = lastW ops q t n := by
  cases h1 : lastW ops p t m with
  | none =>
    cases h2 : lastW ops q t n with
    | none => rfl
    | some j =>
      obtain ⟨a1, a2, a3, _⟩ := lastW_some h2
      obtain ⟨b1, b2, b3⟩ := (h j).2 ⟨a1, a2, a3⟩
      exact absurd ⟨b2, b3⟩ (lastW_none h1 j b1)
  | some i =>
    obtain ⟨a1, a2, a3, a4⟩ := lastW_some h1
    obtain ⟨b1, b2, b3⟩ := (h i).1 ⟨a1, a2, a3⟩
    cases h2 : lastW ops q t n with
    | none => exact absurd ⟨b2, b3⟩ (lastW_none h2 i b1)
    | some j =>
      obtain ⟨c1, c2, c3, c4⟩ := lastW_some h2
      obtain ⟨d1, d2, d3⟩ := (h j).2 ⟨c1, c2, c3⟩
      congr 1
      rcases Nat.lt_trichotomy i j with hl | hl | hl
      · exact absurd ⟨d2, d3⟩ (a4 j hl d1)
      · exact hl
      · exact absurd ⟨b2, b3⟩ (c4 i hl b1)

/-- What slot t holds once the operations that p picks, of the first m, have laid their values. -/
def slotOf (ops : Array Oper) (p : Nat → Bool) (vs : Nat → Value) (a : Act) (m : Nat) (t : Tmp) : Option Value :=
  match lastW ops p t m with
  | none => a.tmps[t]?
  | some j => if t < a.tmps.size then some (vs j) else none

/-- The first m operations' values, laid in the order of the text. -/
def lay (ops : Array Oper) (vs : Nat → Value) (a : Act) : Nat → Act
  | 0 => a
  | m + 1 => (lay ops vs a m).put ((ops[m]?).bind (·.dst)) (vs m)

theorem put_size (a : Act) (d : Option Tmp) (v : Value) : (a.put d v).tmps.size = a.tmps.size := by
  cases d <;> simp [Act.put]
theorem put_defers (a : Act) (d : Option Tmp) (v : Value) : (a.put d v).defers = a.defers := by
  cases d <;> rfl
theorem put_get (a : Act) (d : Option Tmp) (v : Value) (t : Tmp) : (a.put d v).tmps[t]? = if d = some t then (if t < a.tmps.size then some v else none) else a.tmps[t]? := by
  cases d with
  | none => simp [Act.put]
  | some e =>
    by_cases h : e = t
    · subst h; simp [Act.put, Array.getElem?_setIfInBounds]
    · simp [Act.put, h, Array.getElem?_setIfInBounds_ne h]

theorem lay_size (vs : Nat → Value) (a : Act) : ∀ m, (lay ops vs a m).tmps.size = a.tmps.size
  | 0 => rfl
  | m + 1 => by rw [lay, put_size, lay_size vs a m]
theorem lay_defers (vs : Nat → Value) (a : Act) : ∀ m, (lay ops vs a m).defers = a.defers
  | 0 => rfl
  | m + 1 => by rw [lay, put_defers, lay_defers vs a m]
theorem lay_get (vs : Nat → Value) (a : Act) (t : Tmp) : ∀ m : Nat, (lay ops vs a m).tmps[t]? = slotOf ops (fun _ => true) vs a m t
  | 0 => rfl
  | m + 1 => by
    rw [lay, put_get, lay_size]
    unfold slotOf lastW
    by_cases h : (ops[m]?).bind (·.dst) = some t
    · simp [h]
    · simp only [h, and_false, if_false]; exact lay_get vs a t m

theorem act_ext {a b : Act} (h : ∀ t : Nat, a.tmps[t]? = b.tmps[t]?) (hd : a.defers = b.defers) : a = b := by
  cases a; cases b
  simp only at h hd
  rw [Array.ext_getElem? h, hd]

theorem eval_congr {a b : Act} {l : List Tmp} (h : ∀ t ∈ l, a.tmps[t]? = b.tmps[t]?) (x : Operand) (hx : ∀ t, x = .tmp t → t ∈ l) : a.eval x = b.eval x := by
  cases x with
  | tmp t => have := h t (hx t rfl); simp [Act.eval, Array.getD_eq_getD_getElem?, this]
  | _ => rfl

theorem exec_congr {a b : Act} {o : Oper} (hs : ∀ cs t, o.op ≠ .select cs t) (h : ∀ t ∈ o.looksAt ops, a.tmps[t]? = b.tmps[t]?) : execOp a.eval o = execOp b.eval o :=
  execOp_congr o hs fun x hx => eval_congr h x fun t ht => by
    unfold Oper.looksAt
    refine List.mem_append_left _ (List.mem_filterMap.2 ⟨x, by simpa using hx, by rw [ht]⟩)

theorem wanted_congr {a b : Act} {o : Oper} (h : ∀ t ∈ o.looksAt ops, a.tmps[t]? = b.tmps[t]?) : Region.wanted o (yielded ops a.tmps) = Region.wanted o (yielded ops b.tmps) := by
  unfold Region.wanted
  cases hg : o.guard with
  | none => rfl
  | some g =>
    obtain ⟨j, want⟩ := g
    simp only
    congr 1
    unfold yielded
    cases hd : (ops[j]?).bind (·.dst) with
    | none => rfl
    | some d =>
      simp only [Option.bind_some]
      rw [h d (by unfold Oper.looksAt; refine List.mem_append_right _ ?_; simp [hg, hd])]

/-- What is laid of an operation: a known value, or what holds of it. -/
def holdsOf : Value ⊕ (Value → World → Prop) → Value → World → Prop
  | .inl v, u, _ => u = v
  | .inr R, u, W => R u W

/-- The slots that an operation looks at, each written by none of the others, or by one that it waits for (or that waits for it). -/
def tidyB (ops : Array Oper) (n : Nat) : Bool :=
  (List.range n).all fun i => (List.range n).all fun j =>
    match ops[i]?, ops[j]? with
    | some oi, some oj => match oj.dst with
      | none => true
      | some d =>
        if i = j then !(oi.looksAt ops).contains d
        else if (oi.looksAt ops).contains d || oi.dst == some d then (if i < j then Region.waitsFor .any ops j i else Region.waitsFor .any ops i j) else true
    | _, _ => false

/-- Operations wait for earlier ones alone. -/
def backB (ops : Array Oper) (n : Nat) : Bool :=
  (List.range n).all fun i => match ops[i]? with
    | some o => o.after.all fun e => !Region.binds .any e || decide (e.on < i)
    | none => false

/-- All that the theorem asks of the region itself. -/
def partsB (ops : Array Oper) (n : Nat) : Bool :=
  Region.noSelect ops && tidyB ops n && backB ops n && decide (n ≤ ops.size) && (decide (n = ops.size) || (Region.sinkB .any ops n && Region.chainB .any ops n)) &&
    Region.seqB .any ops (ops.size - n) n ((Array.range ops.size).map fun j => decide (j < n))

end
section
variable {P : Program} {ops : Array Oper}

theorem tidy_spec {n : Nat} (h : tidyB ops n = true) {i j : Nat} {oi oj : Oper} {d : Tmp} (hi : i < n) (hj : j < n) (hoi : ops[i]? = some oi) (hoj : ops[j]? = some oj) (hd : oj.dst = some d)
    (hl : d ∈ oi.looksAt ops ∨ (oi.dst = some d ∧ i ≠ j)) : i ≠ j ∧ (i < j → Region.waitsFor .any ops j i = true) ∧ (j < i → Region.waitsFor .any ops i j = true) := by
  have h1 := List.all_eq_true.1 (List.all_eq_true.1 h i (List.mem_range.2 hi)) j (List.mem_range.2 hj)
  simp only [hoi, hoj, hd] at h1
  by_cases e : i = j
  · subst e
    simp only [if_true] at h1
    rcases hl with hl | ⟨_, hl⟩
    · simp [hl] at h1
    · exact absurd rfl hl
  · have hc : ((oi.looksAt ops).contains d || oi.dst == some d) = true := by
      rcases hl with hl | ⟨hl, _⟩
      · simp [hl]
      · simp [hl]
    simp only [e, if_false, hc, if_true] at h1
    refine ⟨e, fun hlt => by simpa [hlt] using h1, fun hlt => ?_⟩
    have : ¬ i < j := by omega
    simpa [this] using h1

/-- What holds at any point while the first n operations are carried out: 'listed' have been. -/
structure Mid (ops : Array Oper) (n : Nat) (ps : Nat → Value ⊕ (Value → World → Prop)) (a0 : Act) (w0 : World) (listed : Array Bool) (vs : Nat → Value) (a : Act) (W : World) : Prop where
  ext : Below w0.heap.size w0 W
  size : a.tmps.size = a0.tmps.size
  defers : a.defers = a0.defers
  slots : ∀ t : Nat, a.tmps[t]? = slotOf ops (fun j => listed.getD j false) vs a0 n t
  held : ∀ j, j < n → listed.getD j false = true → holdsOf (ps j) (vs j) W

/-- The facts that operation i may use: of the operations whose slots it looks at. -/
def depsHold (ops : Array Oper) (ps : Nat → Value ⊕ (Value → World → Prop)) (vs : Nat → Value) (o : Oper) (W : World) : Nat → Prop
  | 0 => True
  | m + 1 => (match (ops[m]?).bind (·.dst) with
      | none => True
      | some d => if (o.looksAt ops).contains d then holdsOf (ps m) (vs m) W else True) ∧ depsHold ops ps vs o W m

theorem depsHold_of {ps : Nat → Value ⊕ (Value → World → Prop)} {vs : Nat → Value} {o : Oper} {W : World} : ∀ m, (∀ j d, j < m → (ops[j]?).bind (·.dst) = some d → d ∈ o.looksAt ops → holdsOf (ps j) (vs j) W) → depsHold ops ps vs o W m
  | 0, _ => trivial
  | m + 1, h => by
    refine ⟨?_, depsHold_of m fun j d hj => h j d (by omega)⟩
    split
    · trivial
    · rename_i d hd
      split
      · rename_i hc
        exact h m d (by omega) hd (by simpa using hc)
      · trivial

/-- What is asked of operation i: in every later world in which the facts of what it looks at hold. -/
def stepFor (P : Program) (ops : Array Oper) (ps : Nat → Value ⊕ (Value → World → Prop)) (a0 : Act) (w0 : World) (vs : Nat → Value) (i : Nat) : Prop :=
  match ops[i]? with
  | none => True
  | some o => ∀ W, Below w0.heap.size w0 W → depsHold ops ps vs o W i →
      if Region.wanted o (yielded ops (lay ops vs a0 i).tmps) then Gives P o (lay ops vs a0 i) W (holdsOf (ps i)) else holdsOf (ps i) undef W

/-- All that stands behind: once all have been carried out. -/
def allHold (ps : Nat → Value ⊕ (Value → World → Prop)) (vs : Nat → Value) (W : World) : Nat → Prop
  | 0 => True
  | m + 1 => holdsOf (ps m) (vs m) W ∧ allHold ps vs W m

theorem allHold_of {ps : Nat → Value ⊕ (Value → World → Prop)} {vs : Nat → Value} {W : World} : ∀ m, (∀ j, j < m → holdsOf (ps j) (vs j) W) → allHold ps vs W m
  | 0, _ => trivial
  | m + 1, h => ⟨h m (by omega), allHold_of m fun j hj => h j (by omega)⟩

theorem mid_step {n : Nat} {ps : Nat → Value ⊕ (Value → World → Prop)} {a0 : Act} {w0 : World} {listed : Array Bool} {vs : Nat → Value} {a : Act} {W : World} {Q : Exit → Act → World → Prop}
    (hB : tidyB ops n = true) (hsel : Region.noSelect ops = true) (hst : ∀ j R, ps j = .inr R → ∀ v W W', R v W → Below W.heap.size W W' → R v W')
    (hop : ∀ vs i, i < n → stepFor P ops ps a0 w0 vs i) (inv : HeadInv .any ops n listed) (mid : Mid ops n ps a0 w0 listed vs a W)
    {i : Nat} (hr : i ∈ Region.ready .any ops listed) (hin : i < n) {K : Act → World → Prop}
    (hk : ∀ vs a W, HeadInv .any ops n (listed.setIfInBounds i true) → Mid ops n ps a0 w0 (listed.setIfInBounds i true) vs a W → K a W) : wpOp P ops Q i K a W := by
  obtain ⟨hun, oi, hoi, hall⟩ := mem_ready.1 hr
  have hunf : listed.getD i false = false := getD_both hun
  have hisz : i < listed.size := by rw [inv.size]; exact (Array.getElem?_eq_some_iff.1 hoi).1
  -- what a listed operation has to do with i
  have later : ∀ j oj d, j < n → ops[j]? = some oj → oj.dst = some d → listed.getD j false = true → (d ∈ oi.looksAt ops ∨ oi.dst = some d) → j < i := by
    intro j oj d hj hoj hd hl hlook
    have hji : i ≠ j := fun e => by subst e; rw [hunf] at hl; cases hl
    obtain ⟨_, h1, _⟩ := tidy_spec hB hin hj hoi hoj hd (hlook.imp id fun h => ⟨h, hji⟩)
    rcases Nat.lt_trichotomy i j with h | h | h
    · obtain ⟨oj', hoj', e, he, hb, hon⟩ := Region.waitsFor_spec (h1 h)
      have := inv.closed j oj' hoj' hl e he hb
      rw [hon, hunf] at this
      cases this
    · exact absurd h hji
    · exact h
  have early : ∀ j oj d, j < i → ops[j]? = some oj → oj.dst = some d → (d ∈ oi.looksAt ops) → listed.getD j false = true := by
    intro j oj d hj hoj hd hlook
    obtain ⟨_, _, h2⟩ := tidy_spec hB hin (by omega) hoi hoj hd (.inl hlook)
    obtain ⟨oi', hoi', e, he, hb, hon⟩ := Region.waitsFor_spec (h2 hj)
    have : oi' = oi := Option.some.inj (hoi'.symm.trans hoi)
    subst this
    have := hall e he hb
    rwa [hon] at this
  have looks : ∀ t ∈ oi.looksAt ops, (lay ops vs a0 i).tmps[t]? = a.tmps[t]? := by
    intro t ht
    rw [lay_get, mid.slots t]
    unfold slotOf
    rw [lastW_eq (ops := ops) (t := t) (p := fun _ => true) (q := fun j => listed.getD j false) (m := i) (n := n) ?_]
    intro j
    constructor
    · rintro ⟨h1, _, h3⟩
      obtain ⟨oj, hoj, hd⟩ := Option.bind_eq_some_iff.1 h3
      exact ⟨by omega, early j oj t h1 hoj hd ht, h3⟩
    · rintro ⟨h1, h2, h3⟩
      obtain ⟨oj, hoj, hd⟩ := Option.bind_eq_some_iff.1 h3
      exact ⟨later j oj t h1 hoj hd h2 (.inl ht), rfl, h3⟩
  have hdeps : depsHold ops ps vs oi W i := depsHold_of i fun j d hj hd hl => by
    obtain ⟨oj, hoj, hd'⟩ := Option.bind_eq_some_iff.1 hd
    exact mid.held j (by omega) (early j oj d hj hoj hd' hl)
  have hs := hop vs i hin
  unfold stepFor at hs
  simp only [hoi] at hs
  have hs := hs W mid.ext hdeps
  rw [wanted_congr looks] at hs
  have next : ∀ v W', Below W.heap.size W W' → holdsOf (ps i) v W' → K (a.put oi.dst v) W' := by
    intro v W' hb hv
    refine hk (fun j => if j = i then v else vs j) _ W' (inv.set hr hin) ⟨ext_trans mid.ext hb, by rw [put_size, mid.size], by rw [put_defers, mid.defers], fun t => ?_, fun j hj hl => ?_⟩
    · rw [put_get, mid.size]
      unfold slotOf
      by_cases hd : oi.dst = some t
      · simp only [hd, if_true]
        have : lastW ops (fun j => (listed.setIfInBounds i true).getD j false) t n = some i := by
          cases hc : lastW ops (fun j => (listed.setIfInBounds i true).getD j false) t n with
          | none => exact absurd ⟨by simp [hisz], by simp [hoi, hd]⟩ (lastW_none hc i hin)
          | some j =>
            obtain ⟨c1, c2, c3, c4⟩ := lastW_some hc
            obtain ⟨oj, hoj, hdj⟩ := Option.bind_eq_some_iff.1 c3
            by_cases e : j = i
            · rw [e]
            · have hlj : listed.getD j false = true := by rwa [getD_set_ne false (Ne.symm e)] at c2
              have := later j oj t c1 hoj hdj hlj (.inr hd)
              exact absurd ⟨by simp [hisz], by simp [hoi, hd]⟩ (c4 i this hin)
        rw [this]
        simp
      · simp only [hd, if_false]
        rw [mid.slots t]
        unfold slotOf
        have : lastW ops (fun j => (listed.setIfInBounds i true).getD j false) t n = lastW ops (fun j => listed.getD j false) t n := by
          refine lastW_eq fun j => ?_
          by_cases e : j = i
          · subst e; simp [hoi, hd]
          · rw [getD_set_ne false (Ne.symm e)]
        rw [this]
        cases hc : lastW ops (fun j => listed.getD j false) t n with
        | none => rfl
        | some j =>
          obtain ⟨c1, c2, c3, c4⟩ := lastW_some hc
          have e : j ≠ i := fun e => by subst e; simp [hoi, hd] at c3
          simp [e]
    · by_cases e : j = i
      · subst e; simpa using hv
      · simp only [e, if_false]
        have hl' : listed.getD j false = true := by rwa [getD_set_ne false (Ne.symm e)] at hl
        have h1 := mid.held j hj hl'
        cases hp : ps j with
        | inl u => simpa [hp, holdsOf] using h1
        | inr R => simp only [hp, holdsOf] at h1 ⊢; exact hst j R hp _ _ _ h1 hb
  unfold wpOp
  simp only [hoi]
  split
  · rename_i hw
    simp only [hw, if_true] at hs
    exact .inl (wp_of_gives (hs.of_eval (exec_congr (fun cs b => Region.noSelect_spec hsel i oi cs b hoi) (fun t ht => (looks t ht).symm))) next)
  · rename_i hw
    simp only [hw] at hs
    exact next _ _ (Below.refl _ _) (by simpa using hs)


def cnt (listed : Array Bool) : Nat → Nat
  | 0 => 0
  | m + 1 => cnt listed m + if listed.getD m false then 0 else 1

theorem cnt_far (listed : Array Bool) (i : Nat) : ∀ m, m ≤ i → cnt (listed.setIfInBounds i true) m = cnt listed m
  | 0, _ => rfl
  | m + 1, h => by rw [cnt, cnt, cnt_far listed i m (by omega), getD_set_ne false (show i ≠ m by omega)]

theorem cnt_set (listed : Array Bool) (i : Nat) (hi : i < listed.size) (hu : listed.getD i false = false) : ∀ m, i < m → cnt (listed.setIfInBounds i true) m + 1 = cnt listed m
  | 0, h => by omega
  | m + 1, h => by
    rw [cnt, cnt]
    by_cases e : i = m
    · subst e; rw [cnt_far _ _ _ (Nat.le_refl _), hu]; simp [hi]
    · have := cnt_set listed i hi hu m (by omega)
      rw [getD_set_ne false e]; omega

theorem cnt_zero (listed : Array Bool) : ∀ m, cnt listed m = 0 → ∀ j, j < m → listed.getD j false = true
  | 0, _, j, h => by omega
  | m + 1, h, j, hj => by
    rw [cnt] at h
    by_cases e : j = m
    · subst e
      cases hl : listed.getD j false with
      | true => rfl
      | false => simp [hl] at h
    · exact cnt_zero listed m (by omega) j (by omega)

theorem least_unlisted (listed : Array Bool) : ∀ m, cnt listed m ≠ 0 → ∃ i, i < m ∧ listed.getD i false = false ∧ ∀ k, k < i → listed.getD k false = true
  | 0, h => absurd rfl h
  | m + 1, h => by
    by_cases e : cnt listed m = 0
    · rw [cnt, e] at h
      refine ⟨m, by omega, ?_, cnt_zero listed m e⟩
      cases hl : listed.getD m false with
      | true => simp [hl] at h
      | false => rfl
    · obtain ⟨i, h1, h2, h3⟩ := least_unlisted listed m e
      exact ⟨i, by omega, h2, h3⟩

theorem wpAny_of_mid {n : Nat} {ps : Nat → Value ⊕ (Value → World → Prop)} {a0 : Act} {w0 : World} {Q : Exit → Act → World → Prop} {l : List Oper}
    (hl : ∀ j : Nat, l[j]? = ops[n + j]?) (hll : l.length = ops.size - n)
    (hB : partsB ops n = true) (hst : ∀ j R, ps j = .inr R → ∀ v W W', R v W → Below W.heap.size W W' → R v W')
    (hop : ∀ vs i, i < n → stepFor P ops ps a0 w0 vs i)
    (hend : ∀ vs W, Below w0.heap.size w0 W → allHold ps vs W n → wpList P ops Q l (lay ops vs a0 n) W) :
    ∀ (f : Nat) (listed : Array Bool) (vs : Nat → Value) (a : Act) (W : World), HeadInv .any ops n listed → Mid ops n ps a0 w0 listed vs a W → cnt listed n = f →
      wpAny P .any ops Q (f + (ops.size - n)) listed a W := by
  simp only [partsB, Bool.and_eq_true, decide_eq_true_eq] at hB
  obtain ⟨⟨⟨⟨⟨hsel, htidy⟩, hback⟩, hn⟩, htail0⟩, hseq⟩ := hB
  have htail : n = ops.size ∨ (Region.sinkB .any ops n = true ∧ Region.chainB .any ops n = true) := by simpa using htail0
  intro f
  induction f with
  | zero =>
    intro listed vs a W inv mid hc
    have hall := cnt_zero listed n hc
    have hlisted : listed = (Array.range ops.size).map fun j => decide (j < n) := by
      apply Array.ext
      · simp [inv.size]
      · intro j h1 h2
        simp only [Array.getElem_map, Array.getElem_range]
        by_cases hj : j < n
        · have := hall j hj
          simp only [h1, Array.getD_eq_getD_getElem?, Array.getElem?_eq_getElem, Option.getD_some] at this
          simp [hj, this]
        · have := getD_both (inv.tail j (by omega) (by simpa using h2))
          simp only [h1, Array.getD_eq_getD_getElem?, Array.getElem?_eq_getElem, Option.getD_some] at this
          simp [hj, this]
    have ha : a = lay ops vs a0 n := act_ext (fun t => by
      rw [lay_get, mid.slots t]
      unfold slotOf
      rw [lastW_eq (ops := ops) (t := t) (p := fun j => listed.getD j false) (q := fun _ => true) (m := n) (n := n) ?_]
      intro j
      constructor
      · rintro ⟨h1, _, h3⟩; exact ⟨h1, rfl, h3⟩
      · rintro ⟨h1, _, h3⟩; exact ⟨h1, hall j h1, h3⟩) (by rw [mid.defers, lay_defers])
    have h := hend vs W mid.ext (allHold_of n fun j hj => mid.held j hj (hall j hj))
    rw [Nat.zero_add, ← hll]
    rw [← hlisted, ← hll] at hseq
    rw [ha]
    exact wpAny_of_seq l n listed _ W hl hseq h
  | succ f ih =>
    intro listed vs a W inv mid hc
    obtain ⟨i0, hi0, hu0, hlow⟩ := least_unlisted listed n (by omega)
    rw [show f + 1 + (ops.size - n) = (f + (ops.size - n)) + 1 by omega]
    refine ⟨fun h => ?_, fun i hi => ?_⟩
    · exfalso
      have h1 := List.all_eq_true.1 hback i0 (List.mem_range.2 hi0)
      cases ho : ops[i0]? with
      | none => simp [ho] at h1
      | some o =>
        simp only [ho] at h1
        have : i0 ∈ Region.ready .any ops listed := by
          refine mem_ready.2 ⟨getD_in (by rw [inv.size]; omega) hu0, o, ho, fun e he hb => ?_⟩
          have h2 := Array.all_eq_true'.1 h1 e he
          simp only [hb, Bool.not_true, Bool.false_or, decide_eq_true_eq] at h2
          exact hlow e.on h2
        rw [h] at this
        cases this
    · have hin : i < n := by
        rcases Nat.lt_or_ge i n with h | h
        · exact h
        · rcases htail with ht | ht
          · obtain ⟨_, o, ho, _⟩ := mem_ready.1 hi
            have := (Array.getElem?_eq_some_iff.1 ho).1
            omega
          · rcases Nat.lt_or_ge n ops.size with hns | hns
            · exact absurd hi (tail_waits ht.1 ht.2 hns inv _ i0 rfl hi0 (getD_in (by rw [inv.size]; omega) hu0) i h)
            · obtain ⟨_, o, ho, _⟩ := mem_ready.1 hi
              have := (Array.getElem?_eq_some_iff.1 ho).1
              omega
      have hun := (mem_ready.1 hi).1
      refine mid_step htidy hsel hst hop inv mid hi hin fun vs' a' W' inv' mid' => ih _ vs' a' W' inv' mid' ?_
      have := cnt_set listed i (by rw [inv.size]; omega) (getD_both hun) n hin
      omega

/-- **A region that draws its order.** Its first n operations yield, in whatever order, what 'ps' says of them, each in every later world, by the facts of the operations whose slots it looks at; what stands behind them comes in the order of the text. -/
theorem wp_region_parts {id : Nat} {ops : List Oper} {Q : Exit → Act → World → Prop} {a : Act} {w : World} (n : Nat) (ps : Nat → Value ⊕ (Value → World → Prop)) (hm : P.follows .mixedOrders = true) (hB : partsB ops.toArray n = true)
    (hst : ∀ j R, ps j = .inr R → ∀ v W W', R v W → Below W.heap.size W W' → R v W')
    (hop : ∀ vs i, i < n → stepFor P ops.toArray ps a w vs i)
    (hend : ∀ vs W, Below w.heap.size w W → allHold ps vs W n → wpList P ops.toArray Q (ops.drop n) (lay ops.toArray vs a n) W) : (Code.region id ops.toArray true).wp P Q a w := by
  have hn : n ≤ ops.toArray.size := by
    simp only [partsB, Bool.and_eq_true, decide_eq_true_eq] at hB
    exact hB.1.1.2
  have he : Below w.heap.size w { w with drawn := w.drawn + 1 } := (Below.refl _ _).drew
  have hc : ∀ m, cnt (Array.replicate ops.toArray.size false) m = m := fun m => by
    induction m with
    | zero => rfl
    | succ m ih => rw [cnt, ih, getD_replicate_false]; rfl
  refine wp_region_any hm ?_
  have := wpAny_of_mid (P := P) (ops := ops.toArray) (l := ops.drop n) (fun j => by simp [List.getElem?_drop]) (by simp) hB hst hop hend n (Array.replicate ops.toArray.size false) (fun _ => undef) a { w with drawn := w.drawn + 1 }
    ⟨by simp, fun j oj _ hl => (by rw [getD_replicate_false] at hl; cases hl), fun t _ ht => getD_in (by simpa using ht) (getD_replicate_false _ _)⟩
    ⟨he, rfl, rfl, fun t => ?_, fun j _ hl => (by rw [getD_replicate_false] at hl; cases hl)⟩ (hc n)
  · rwa [show n + (ops.toArray.size - n) = ops.toArray.size by omega] at this
  · unfold slotOf
    rw [show lastW ops.toArray (fun j => (Array.replicate ops.toArray.size false).getD j false) t n = none from ?_]
    cases h : lastW ops.toArray (fun j => (Array.replicate ops.toArray.size false).getD j false) t n with
    | none => rfl
    | some j => have := (lastW_some h).2.1; rw [getD_replicate_false] at this; cases this

end

section
variable {P : Program}

abbrev Piece := Value ⊕ (Value → World → Prop)

/-- The facts, among those at hand, of the slots that an operation looks at. -/
def near (ops : Array Oper) (o : Oper) : List (Tmp × (World → Prop)) → World → Prop
  | [], _ => True
  | g :: G, W => if (o.looksAt ops).contains g.1 then g.2 W ∧ near ops o G W else near ops o G W

def every : List (Tmp × (World → Prop)) → World → Prop
  | [], _ => True
  | g :: G, W => g.2 W ∧ every G W

/-- The walk in the order of the text. -/
def wpParts (P : Program) (ops : Array Oper) (w : World) (Q : Exit → Act → World → Prop) : List Oper → List Piece → List (Tmp × (World → Prop)) → Act → Prop
  | o :: os, .inl v :: ps, G, a =>
    (if Region.wanted o (yielded ops a.tmps) then (∀ W, Below w.heap.size w W → near ops o G W → Gives P o a W (fun u _ => u = v)) else undef = v) ∧ wpParts P ops w Q os ps G (a.put o.dst v)
  | o :: os, .inr R :: ps, G, a =>
    ((∀ v W W', R v W → Below W.heap.size W W' → R v W') ∧ Region.wanted o (yielded ops a.tmps) = true ∧ (∀ W, Below w.heap.size w W → near ops o G W → Gives P o a W R)) ∧
      ∀ u, wpParts P ops w Q os ps (match o.dst with | some d => (d, R u) :: G | none => G) (a.put o.dst u)
  | os, _, G, a => ∀ W, Below w.heap.size w W → every G W → wpList P ops Q os a W

end

section
variable {P : Program} {ops : Array Oper}

theorem depsHold_get {ps : Nat → Piece} {vs : Nat → Value} {o : Oper} {W : World} : ∀ {m : Nat}, depsHold ops ps vs o W m → ∀ j d, j < m → (ops[j]?).bind (·.dst) = some d → d ∈ o.looksAt ops → holdsOf (ps j) (vs j) W
  | 0, _, j, _, hj, _, _ => by omega
  | m + 1, h, j, d, hj, hd, hl => by
    obtain ⟨h1, h2⟩ := h
    by_cases e : j = m
    · subst e
      rw [hd] at h1
      have hc : (o.looksAt ops).contains d = true := by simpa using hl
      simpa only [hc, if_true] using h1
    · exact depsHold_get h2 j d (by omega) hd hl

theorem allHold_get {ps : Nat → Piece} {vs : Nat → Value} {W : World} : ∀ {m : Nat}, allHold ps vs W m → ∀ j, j < m → holdsOf (ps j) (vs j) W
  | 0, _, j, hj => by omega
  | m + 1, h, j, hj => by
    by_cases e : j = m
    · subst e; exact h.1
    · exact allHold_get h.2 j (by omega)

/-- The values, those that are known put in. -/
def fixed (ps : Nat → Piece) (vs : Nat → Value) (i : Nat) : Value :=
  match ps i with
  | .inl v => v
  | .inr _ => vs i

theorem fixed_eq {ps : Nat → Piece} {vs : Nat → Value} {i : Nat} {W : World} (h : holdsOf (ps i) (vs i) W) : fixed ps vs i = vs i := by
  unfold fixed holdsOf at *
  split <;> rename_i h'
  · rw [h'] at h; exact h.symm
  · rfl

/-- The facts at hand behind the first k operations. -/
def facts (ops : Array Oper) (ps : Nat → Piece) (vs : Nat → Value) : Nat → List (Tmp × (World → Prop))
  | 0 => []
  | k + 1 => match ps k with
    | .inl _ => facts ops ps vs k
    | .inr R => match (ops[k]?).bind (·.dst) with
      | some d => (d, R (vs k)) :: facts ops ps vs k
      | none => facts ops ps vs k

theorem near_of {ps : Nat → Piece} {vs : Nat → Value} {o : Oper} {W : World} : ∀ {k : Nat}, depsHold ops ps vs o W k → near ops o (facts ops ps vs k) W
  | 0, _ => trivial
  | k + 1, h => by
    have ih := near_of h.2
    unfold facts
    cases hp : ps k with
    | inl v => exact ih
    | inr R =>
      simp only
      cases hd : (ops[k]?).bind (·.dst) with
      | none => exact ih
      | some d =>
        simp only [near]
        by_cases hl : d ∈ o.looksAt ops
        · have h1 := depsHold_get h k d (by omega) hd hl
          rw [hp] at h1
          rw [if_pos (by simpa using hl)]
          exact ⟨h1, ih⟩
        · rw [if_neg (by simpa using hl)]
          exact ih

theorem every_of {ps : Nat → Piece} {vs : Nat → Value} {W : World} : ∀ {k : Nat}, allHold ps vs W k → every (facts ops ps vs k) W
  | 0, _ => trivial
  | k + 1, h => by
    have ih := every_of h.2
    unfold facts
    cases hp : ps k with
    | inl v => exact ih
    | inr R =>
      simp only
      cases hd : (ops[k]?).bind (·.dst) with
      | none => exact ih
      | some d =>
        have h1 := h.1
        rw [hp] at h1
        exact ⟨h1, ih⟩

/-- What the walk in the order of the text says of each operation, and of what stands behind. -/
theorem parts_spec {w : World} {Q : Exit → Act → World → Prop} {a : Act} {qs : Nat → Piece} (vs : Nat → Value) :
    ∀ (l : List Oper) (ps : List Piece) (k : Nat), (∀ j : Nat, l[j]? = ops[k + j]?) → (∀ j p, ps[j]? = some p → qs (k + j) = p) → ps.length ≤ l.length →
      wpParts P ops w Q l ps (facts ops qs vs k) (lay ops (fixed qs vs) a k) →
      (∀ i, k ≤ i → i < k + ps.length → ∃ o, ops[i]? = some o ∧ ∀ W, Below w.heap.size w W → near ops o (facts ops qs vs i) W →
        (if Region.wanted o (yielded ops (lay ops (fixed qs vs) a i).tmps) then Gives P o (lay ops (fixed qs vs) a i) W (holdsOf (qs i)) else holdsOf (qs i) undef W)) ∧
      (∀ i R, k ≤ i → i < k + ps.length → qs i = .inr R → ∀ v W W', R v W → Below W.heap.size W W' → R v W') ∧
      (∀ W, Below w.heap.size w W → every (facts ops qs vs (k + ps.length)) W → wpList P ops Q (l.drop ps.length) (lay ops (fixed qs vs) a (k + ps.length)) W)
  | l, [], k, _, _, _, h => by
    refine ⟨fun i h1 h2 => ?_, fun i R h1 h2 => ?_, ?_⟩
    · simp at h2; omega
    · simp at h2; omega
    · cases l <;> simpa [wpParts] using h
  | [], _ :: _, _, _, _, hlen, _ => by simp at hlen
  | o :: l, p :: ps, k, hl, hq, hlen, h => by
    have h0 : ops[k]? = some o := by simpa using (hl 0).symm
    have hp : qs k = p := by simpa using hq 0 p rfl
    have hb : (ops[k]?).bind (·.dst) = o.dst := by rw [h0]; rfl
    have rest := fun (h' : wpParts P ops w Q l ps (facts ops qs vs (k + 1)) (lay ops (fixed qs vs) a (k + 1))) => parts_spec vs l ps (k + 1) (fun j => by have := hl (j + 1); simpa [Nat.add_assoc, Nat.add_comm 1 j] using this)
      (fun j q hj => by have := hq (j + 1) q (by simpa using hj); simpa [Nat.add_assoc, Nat.add_comm 1 j] using this) (by simpa using hlen) h'
    have key : wpParts P ops w Q l ps (facts ops qs vs (k + 1)) (lay ops (fixed qs vs) a (k + 1)) ∧
        (∀ R, p = .inr R → ∀ v W W', R v W → Below W.heap.size W W' → R v W') ∧
        ∀ W, Below w.heap.size w W → near ops o (facts ops qs vs k) W →
          (if Region.wanted o (yielded ops (lay ops (fixed qs vs) a k).tmps) then Gives P o (lay ops (fixed qs vs) a k) W (holdsOf p) else holdsOf p undef W) := by
      cases p with
      | inl v =>
        obtain ⟨h1, h2⟩ := h
        have e : fixed qs vs k = v := by unfold fixed; rw [hp]
        refine ⟨by rw [facts, hp, lay, hb, e]; exact h2, (fun R hR => by cases hR), fun W hW hn => ?_⟩
        split
        · rename_i hw; rw [if_pos hw] at h1; exact h1 W hW hn
        · rename_i hw; rw [if_neg hw] at h1; exact h1
      | inr R =>
        obtain ⟨⟨h1, h3, h4⟩, h2⟩ := h
        have e : fixed qs vs k = vs k := by unfold fixed; rw [hp]
        refine ⟨?_, (fun R' hR => by cases hR; exact h1), fun W hW hn => by rw [if_pos h3]; exact h4 W hW hn⟩
        have := h2 (vs k)
        rw [facts, hp, lay, hb, e]
        cases hd : o.dst <;> simpa [hd] using this
    obtain ⟨r1, r2, r3⟩ := rest key.1
    have hl' : k + (p :: ps).length = k + 1 + ps.length := by simp; omega
    refine ⟨fun i h1 h2 => ?_, fun i R h1 h2 hR => ?_, ?_⟩
    · by_cases e : i = k
      · subst e; exact ⟨o, h0, by rw [hp]; exact key.2.2⟩
      · exact r1 i (by omega) (by omega)
    · by_cases e : i = k
      · subst e; exact key.2.1 R (by rw [← hp, hR])
      · exact r2 i R (by omega) (by omega) hR
    · rw [hl']; simpa using r3

/-- **A region that draws its order**, walked in the order of the text: 'ps' says of each of its first operations what it yields. -/
theorem wp_region_seq {id : Nat} {l : List Oper} {Q : Exit → Act → World → Prop} {a : Act} {w : World} (ps : List Piece) (hm : P.follows .mixedOrders = true) (hB : partsB l.toArray ps.length = true)
    (h : wpParts P l.toArray w Q l ps [] a) : (Code.region id l.toArray true).wp P Q a w := by
  have hn : ps.length ≤ l.length := by
    simp only [partsB, Bool.and_eq_true, decide_eq_true_eq] at hB
    simpa using hB.1.1.2
  have spec := fun vs => parts_spec (P := P) (ops := l.toArray) (w := w) (Q := Q) (a := a) (qs := fun i => (ps[i]?).getD (.inl undef)) vs l ps 0 (fun j => by simp) (fun j p hj => by simp [hj]) hn h
  refine wp_region_parts ps.length (fun i => (ps[i]?).getD (.inl undef)) hm hB ?_ ?_ ?_
  · intro j R hj
    by_cases hlt : j < ps.length
    · exact (spec (fun _ => undef)).2.1 j R (by omega) (by omega) hj
    · have : ps[j]? = none := by simp; omega
      simp [this] at hj
  · intro vs i hi
    unfold stepFor
    obtain ⟨o, ho, hs⟩ := (spec vs).1 i (by omega) (by omega)
    rw [ho]
    intro W hW hd
    have hs := hs W hW (near_of hd)
    have looks : ∀ t ∈ o.looksAt l.toArray, (lay l.toArray (fixed (fun i => (ps[i]?).getD (.inl undef)) vs) a i).tmps[t]? = (lay l.toArray vs a i).tmps[t]? := by
      intro t ht
      rw [lay_get, lay_get]
      unfold slotOf
      cases hc : lastW l.toArray (fun _ => true) t i with
      | none => rfl
      | some j =>
        obtain ⟨c1, _, c3, _⟩ := lastW_some hc
        simp only
        rw [fixed_eq (depsHold_get hd j t c1 c3 ht)]
    rw [wanted_congr looks] at hs
    simp only
    split
    · rename_i hw; rw [if_pos hw] at hs
      refine hs.of_eval (exec_congr (fun cs b => Region.noSelect_spec (by simp only [partsB, Bool.and_eq_true] at hB; exact hB.1.1.1.1.1) i o cs b ho) (fun t ht => (looks t ht).symm))
    · rename_i hw; rw [if_neg hw] at hs; exact hs
  · intro vs W hW hall
    have := (spec vs).2.2 W hW (every_of (by simpa using hall))
    have e : lay l.toArray (fixed (fun i => (ps[i]?).getD (.inl undef)) vs) a ps.length = lay l.toArray vs a ps.length := act_ext (fun t => by
      rw [lay_get, lay_get]
      unfold slotOf
      cases hc : lastW l.toArray (fun _ => true) t ps.length with
      | none => rfl
      | some j =>
        obtain ⟨c1, _, _, _⟩ := lastW_some hc
        simp only
        rw [fixed_eq (allHold_get hall j c1)]) (by rw [lay_defers, lay_defers])
    rw [Nat.zero_add, e] at this
    exact this

end

section
variable {P : Program} {ops : Array Oper} {w : World} {Q : Exit → Act → World → Prop} {o : Oper} {os : List Oper} {ps : List Piece} {G : List (Tmp × (World → Prop))} {a : Act}

/-- One operation, whose value is known. -/
theorem wpParts_det {v : Value} (hw : Region.wanted o (yielded ops a.tmps) = true) (h : ∀ W, Below w.heap.size w W → near ops o G W → Gives P o a W (fun u _ => u = v))
    (hr : wpParts P ops w Q os ps G (a.put o.dst v)) : wpParts P ops w Q (o :: os) (.inl v :: ps) G a := by
  unfold wpParts
  rw [if_pos hw]
  exact ⟨h, hr⟩

/-- One operation that is passed over. -/
theorem wpParts_skip (hw : Region.wanted o (yielded ops a.tmps) = false) (hr : wpParts P ops w Q os ps G (a.put o.dst undef)) : wpParts P ops w Q (o :: os) (.inl undef :: ps) G a := by
  unfold wpParts
  rw [if_neg (by rw [hw]; exact Bool.false_ne_true)]
  exact ⟨rfl, hr⟩

/-- One operation of whose value something is known. -/
theorem wpParts_any {d : Tmp} {R : Value → World → Prop} (hd : o.dst = some d) (hst : ∀ v W W', R v W → Below W.heap.size W W' → R v W') (hw : Region.wanted o (yielded ops a.tmps) = true)
    (h : ∀ W, Below w.heap.size w W → near ops o G W → Gives P o a W R) (hr : ∀ u, wpParts P ops w Q os ps ((d, R u) :: G) (a.put (some d) u)) : wpParts P ops w Q (o :: os) (.inr R :: ps) G a := by
  unfold wpParts
  refine ⟨⟨hst, hw, h⟩, fun u => ?_⟩
  simp only [hd]
  exact hr u

theorem wpParts_end (h : ∀ W, Below w.heap.size w W → every G W → wpList P ops Q os a W) : wpParts P ops w Q os [] G a := by
  cases os <;> (unfold wpParts; exact h)

end

/-- Where two ways give a Bool each: one way, the test as a Bool. -/
theorem ite_val (p : Prop) [Decidable p] (W : World) (b : Bool) : (if p then (Result.ok (Next.value (.bool b)) W) else (Result.ok (Next.value (.bool false)) W)) = Result.ok (Next.value (.bool (decide p && b))) W := by
  by_cases h : p <;> simp [h]
theorem ite_val_true (p : Prop) [Decidable p] (W : World) : (if p then (Result.ok (Next.value (.bool true)) W) else (Result.ok (Next.value (.bool false)) W)) = Result.ok (Next.value (.bool (decide p))) W := by
  by_cases h : p <;> simp [h]
end Go.Dav

namespace Go.Dav
set_option linter.unusedVariables false
set_option linter.unusedSimpArgs false
open Go Go.RowKit

/-- Block p holds just these cells, and all of them may be written. -/
def Blk (W : World) (p : Nat) (cs : List Value) (t : TypeId) : Prop := W.heap[p]? = some (.cells cs.toArray t (0, 0))

theorem Blk.lt {W : World} {p : Nat} {cs : List Value} {t : TypeId} (h : Blk W p cs t) : p < W.heap.size := (Array.getElem?_eq_some_iff.1 h).1
theorem Blk.cell {W : World} {p : Nat} {cs : List Value} {t : TypeId} (h : Blk W p cs t) (i : Nat) {v : Value} (hi : cs[i]? = some v) : W.cell? ⟨p, i, none⟩ = some v := by
  unfold Blk at h
  simp [World.cell?, h, hi]
theorem Blk.frozen {W : World} {p : Nat} {cs : List Value} {t : TypeId} (h : Blk W p cs t) (i : Nat) : W.frozen? ⟨p, i, none⟩ = false := by
  unfold Blk at h
  simp [World.frozen?, h]
/-- All its cells, for the walk. -/
theorem Blk.cells {W : World} {p : Nat} {cs : List Value} {t : TypeId} (h : Blk W p cs t) : ∀ i, W.cell? ⟨p, i, none⟩ = cs[i]? := fun i => by
  unfold Blk at h
  simp [World.cell?, h]
theorem Blk.marks {W : World} {p : Nat} {cs : List Value} {t : TypeId} (h : Blk W p cs t) : ∀ i, W.frozen? ⟨p, i, none⟩ = false := fun i => h.frozen i
theorem Blk.below {W W' : World} {B p : Nat} {cs : List Value} {t : TypeId} (h : Blk W p cs t) (hb : Below B W W') (hp : p < B) : Blk W' p cs t := (hb.block p hp).trans h
theorem Blk.ext {W W' : World} {p : Nat} {cs : List Value} {t : TypeId} (h : Blk W p cs t) (hb : Below W.heap.size W W') : Blk W' p cs t := h.below hb h.lt
theorem Blk.new (W : World) (cs : List Value) (t : TypeId) : Blk (W.alloc (.cells cs.toArray t)) W.heap.size cs t := by
  unfold Blk World.alloc
  simp
theorem Blk.new' (W : World) (cs : List Value) (t : TypeId) {p : Nat} (h : W.heap.size = p) : Blk (W.alloc (.cells cs.toArray t)) p cs t := h ▸ Blk.new W cs t
theorem Blk.alloc {W : World} {p : Nat} {cs : List Value} {t : TypeId} (h : Blk W p cs t) (o : Obj) : Blk (W.alloc o) p cs t := (Below.heap_alloc W o p h.lt).trans h
theorem Blk.drew {W : World} {p : Nat} {cs : List Value} {t : TypeId} (h : Blk W p cs t) : Blk W.drew p cs t := h
theorem Blk.set {W : World} {p : Nat} {cs : List Value} {t : TypeId} (h : Blk W p cs t) (i : Nat) (v : Value) : Blk (W.setCell ⟨p, i, none⟩ v) p (cs.set i v) t := by
  have hlt := h.lt
  unfold Blk at *
  have : W.heap[p] = .cells cs.toArray t (0, 0) := (Array.getElem?_eq_some_iff.1 h).2
  simp [World.setCell, hlt, Array.getElem_modify, this]
theorem Blk.other {W : World} {p q : Nat} {cs : List Value} {t : TypeId} (h : Blk W p cs t) (hne : p ≠ q) (i : Nat) (v : Value) : Blk (W.setCell ⟨q, i, none⟩ v) p cs t :=
  (Below.heap_setCell W ⟨q, i, none⟩ v p hne).trans h

theorem cell_new_at (W : World) (cs : Array Value) (t : TypeId) {p : Nat} (h : p = W.heap.size) (j : Nat) : (W.alloc (.cells cs t)).cell? ⟨p, j, none⟩ = cs[j]? := by
  subst h
  have e : (W.alloc (.cells cs t)).heap[W.heap.size]? = some (.cells cs t) := by unfold World.alloc; simp
  unfold World.cell?
  simp only [e]
  rfl

/-- A new block, at B or beyond, and a value that points to it. -/
def NewBlk (B : Nat) (cs : List Value) (t : TypeId) (v : Value) (W : World) : Prop := ∃ p, v = .pointer (some ⟨p, 0, none⟩) ∧ B ≤ p ∧ Blk W p cs t
theorem NewBlk.later {B : Nat} {cs : List Value} {t : TypeId} : ∀ v W W', NewBlk B cs t v W → Below W.heap.size W W' → NewBlk B cs t v W' :=
  fun _ _ _ ⟨p, h1, h2, h3⟩ hb => ⟨p, h1, h2, h3.ext hb⟩
theorem newBlk_alloc {B : Nat} {cs : List Value} {t : TypeId} {W : World} (h : B ≤ W.heap.size) :
    Below W.heap.size W (W.alloc (.cells cs.toArray t)) ∧ NewBlk B cs t (.pointer (some ⟨W.heap.size, 0, none⟩)) (W.alloc (.cells cs.toArray t)) :=
  ⟨(Below.refl _ _).alloc (Nat.le_refl _) _, ⟨_, rfl, h, Blk.new _ _ _⟩⟩

/-- A pointer to offset o of some block, and what cell j of that block holds. -/
def CellIs (o j : Nat) (u v : Value) (W : World) : Prop := ∃ g, v = .pointer (some ⟨g, o, none⟩) ∧ W.cell? ⟨g, j, none⟩ = some u
theorem CellIs.later {o j : Nat} {u : Value} : ∀ v W W', CellIs o j u v W → Below W.heap.size W W' → CellIs o j u v W' :=
  fun _ _ _ ⟨g, h1, h2⟩ hb => ⟨g, h1, by rw [hb.cell (p := ⟨g, j, none⟩) (World.block_lt_of_cell? _ _ h2)]; exact h2⟩

theorem below_drewN {B : Nat} {w w' : World} (h : Below B w w') (n : Nat) : Below B w (w'.drewN n) := ⟨h.os, h.tape, h.output, h.size, h.block⟩
/-- Block p alone is written; new blocks may have come. -/
structure Only (p : Nat) (w w' : World) : Prop where
  os : w'.os = w.os
  tape : w'.tape = w.tape
  output : w'.output = w.output
  size : w.heap.size ≤ w'.heap.size
  block : ∀ k, k < w.heap.size → k ≠ p → w'.heap[k]? = w.heap[k]?
theorem Only.refl (p : Nat) (w : World) : Only p w w := ⟨rfl, rfl, rfl, Nat.le_refl _, fun _ _ _ => rfl⟩
theorem Only.set {p : Nat} {w w' : World} (h : Only p w w') (i : Nat) (v : Value) : Only p w (w'.setCell ⟨p, i, none⟩ v) :=
  ⟨h.os, h.tape, h.output, by simpa using h.size, fun k hk hne => (Below.heap_setCell w' ⟨p, i, none⟩ v k hne).trans (h.block k hk hne)⟩
theorem Only.alloc {p : Nat} {w w' : World} (h : Only p w w') (o : Obj) : Only p w (w'.alloc o) :=
  ⟨h.os, h.tape, h.output, by have := h.size; simp; omega, fun k hk hne => (Below.heap_alloc w' o k (Nat.lt_of_lt_of_le hk h.size)).trans (h.block k hk hne)⟩
theorem Only.drew {p : Nat} {w w' : World} (h : Only p w w') : Only p w w'.drew := ⟨h.os, h.tape, h.output, h.size, h.block⟩
theorem Only.ext {p : Nat} {w w' w'' : World} (h : Only p w w') (hb : Below w'.heap.size w' w'') : Only p w w'' :=
  ⟨hb.os.trans h.os, hb.tape.trans h.tape, hb.output.trans h.output, Nat.le_trans h.size hb.size, fun k hk hne => (hb.block k (Nat.lt_of_lt_of_le hk h.size)).trans (h.block k hk hne)⟩
theorem Only.trans {p : Nat} {w w' w'' : World} (h : Only p w w') (k : Only p w' w'') : Only p w w'' :=
  ⟨k.os.trans h.os, k.tape.trans h.tape, k.output.trans h.output, Nat.le_trans h.size k.size, fun i hi hne => (k.block i (Nat.lt_of_lt_of_le hi h.size) hne).trans (h.block i hi hne)⟩
theorem below_only {B p : Nat} {a w w' : World} (h : Below B a w) (k : Only p w w') (hs : B ≤ w.heap.size) (hp : B ≤ p) : Below B a w' :=
  ⟨k.os.trans h.os, k.tape.trans h.tape, k.output.trans h.output, Nat.le_trans h.size k.size, fun i hi => (k.block i (by omega) (by omega)).trans (h.block i hi)⟩
theorem Blk.only {W W' : World} {p q : Nat} {cs : List Value} {t : TypeId} (h : Blk W q cs t) (k : Only p W W') (hne : q ≠ p) : Blk W' q cs t := (k.block q h.lt hne).trans h
/-- What a call leaves of what lay there, for the walk. -/
theorem after {W W' : World} (hb : Below W.heap.size W W') : (∀ b o, b < W.heap.size → W'.cell? ⟨b, o, none⟩ = W.cell? ⟨b, o, none⟩) ∧ (∀ b o, b < W.heap.size → W'.frozen? ⟨b, o, none⟩ = W.frozen? ⟨b, o, none⟩) ∧ W.heap.size ≤ W'.heap.size :=
  ⟨fun b o h => hb.cell (p := ⟨b, o, none⟩) h, fun b o h => hb.frozen (p := ⟨b, o, none⟩) h, hb.size⟩
end Go.Dav

namespace Go.Dav
set_option linter.unusedVariables false
set_option linter.unusedSimpArgs false
open Go Go.RowKit

/-- Fits an int64. -/
def I64' (n : Int) : Prop := -9223372036854775808 ≤ n ∧ n ≤ 9223372036854775807

structure FileD where
  firm : List UInt8
  loose : List (List UInt8)
  fuse : Int
  fault : Int
  off : Bool

/-- How many bytes the first k pieces have. -/
def sumTo (L : List (List UInt8)) (k : Nat) : Nat := ((L.take k).map List.length).sum
theorem sumTo_zero (L : List (List UInt8)) : sumTo L 0 = 0 := by simp [sumTo]
theorem sumTo_succ {L : List (List UInt8)} {k : Nat} {p : List UInt8} (h : L[k]? = some p) : sumTo L (k + 1) = sumTo L k + p.length := by
  unfold sumTo
  rw [List.take_add_one, h]
  simp
def FileD.many (F : FileD) : Nat := F.firm.length + (F.loose.map List.length).sum
theorem sumTo_all (L : List (List UInt8)) : sumTo L L.length = (L.map List.length).sum := by simp [sumTo]
theorem sumTo_mono (L : List (List UInt8)) (k : Nat) : sumTo L k ≤ (L.map List.length).sum := by
  have h : (L.map List.length).sum = sumTo L k + ((L.drop k).map List.length).sum := by
    unfold sumTo; rw [← List.sum_append, ← List.map_append, List.take_append_drop]
  omega
def FileD.all (F : FileD) : List UInt8 := F.firm ++ F.loose.flatten
theorem FileD.all_length (F : FileD) : F.all.length = F.many := by simp [FileD.all, FileD.many, List.length_flatten]
/-- No piece is empty. -/
def FileD.full (F : FileD) : Bool := F.loose.all fun p => !p.isEmpty
def FileD.right (F : FileD) : Bool := F.full && decide (-1 ≤ F.fuse) && decide (-1 ≤ F.fault) && (!F.off || decide (F.fuse = -1)) && decide (F.many ≤ 524288)
/-- What 'length' answers. -/
def FileD.len (F : FileD) : Int := if F.full = true ∧ F.many ≤ 524288 then (F.many : Int) else -1
/-- What 'Check' answers. -/
def FileD.err (F : FileD) : Int := if F.right = true then 0 else 200

theorem FileD.right_spec {F : FileD} : F.right = true ↔ F.full = true ∧ -1 ≤ F.fuse ∧ -1 ≤ F.fault ∧ (F.off = true → F.fuse = -1) ∧ F.many ≤ 524288 := by
  unfold FileD.right
  cases F.off <;> simp [and_assoc]

/-- The bytes of a slice: where they lie. -/
structure BytesAt (W : World) (a : Option Addr) (len cap : Nat) (l : List UInt8) : Prop where
  hlen : l.length = len
  hcap : len ≤ cap
  hmax : cap ≤ maxLen
  hfew : len ≤ 140737488355328
  hat : ∀ k x, l[k]? = some x → ∃ b o, a = some ⟨b, o, none⟩ ∧ b < W.heap.size ∧ W.cell? ⟨b, o + k, none⟩ = some (.int .u8 (x.toNat : Int))
  hnil : a = none → cap = 0

structure LooseAt (W : World) (a : Option Addr) (len cap : Nat) (L : List (List UInt8)) : Prop where
  hlen : L.length = len
  hcap : len ≤ cap
  hmax : cap ≤ maxLen
  hfew : len ≤ 140737488355328
  hat : ∀ k p, L[k]? = some p → ∃ b o pa pl pc, a = some ⟨b, o, none⟩ ∧ b < W.heap.size ∧ W.cell? ⟨b, o + k, none⟩ = some (.slice pa pl pc) ∧ BytesAt W pa pl pc p
  hnil : a = none → cap = 0

structure FileAt (W : World) (fa : Option Addr) (fl fc : Nat) (la : Option Addr) (ll lc : Nat) (F : FileD) : Prop where
  firm : BytesAt W fa fl fc F.firm
  loose : LooseAt W la ll lc F.loose
  fuse : I64' F.fuse
  fault : I64' F.fault

theorem BytesAt.ext {W W' : World} {a : Option Addr} {len cap : Nat} {l : List UInt8} (h : BytesAt W a len cap l) (hb : Below W.heap.size W W') : BytesAt W' a len cap l :=
  ⟨h.hlen, h.hcap, h.hmax, h.hfew, fun k x hk => by
    obtain ⟨b, o, h1, h2, h3⟩ := h.hat k x hk
    exact ⟨b, o, h1, Nat.lt_of_lt_of_le h2 hb.size, by rw [hb.cell (p := ⟨b, o + k, none⟩) h2]; exact h3⟩, h.hnil⟩
theorem LooseAt.ext {W W' : World} {a : Option Addr} {len cap : Nat} {L : List (List UInt8)} (h : LooseAt W a len cap L) (hb : Below W.heap.size W W') : LooseAt W' a len cap L :=
  ⟨h.hlen, h.hcap, h.hmax, h.hfew, fun k x hk => by
    obtain ⟨b, o, pa, pl, pc, h1, h2, h3, h4⟩ := h.hat k x hk
    exact ⟨b, o, pa, pl, pc, h1, Nat.lt_of_lt_of_le h2 hb.size, by rw [hb.cell (p := ⟨b, o + k, none⟩) h2]; exact h3, h4.ext hb⟩, h.hnil⟩
theorem FileAt.ext {W W' : World} {fa la : Option Addr} {fl fc ll lc : Nat} {F : FileD} (h : FileAt W fa fl fc la ll lc F) (hb : Below W.heap.size W W') : FileAt W' fa fl fc la ll lc F :=
  ⟨h.firm.ext hb, h.loose.ext hb, h.fuse, h.fault⟩

theorem full_take {L : List (List UInt8)} {k : Nat} {p : List UInt8} (h : L[k]? = some p) : ((L.take (k + 1)).all fun p => !p.isEmpty) = ((L.take k).all (fun p => !p.isEmpty) && !p.isEmpty) := by
  rw [List.take_add_one, h, List.all_append]; simp

theorem ret_bool {a b : Bool} (h : a = b) : Ending.returned (.bool a) = .returned (.bool b) := by rw [h]
theorem ret_int {k : IntKind} {a b : Int} (h : a = b) : Ending.returned (.int k a) = .returned (.int k b) := by rw [h]
theorem FileD.len_neg {F : FileD} : F.len < 0 ↔ ¬ (F.full = true ∧ F.many ≤ 524288) := by
  unfold FileD.len
  split
  · rename_i h; simp [h]
  · rename_i h; simp [h]
theorem FileD.right_len {F : FileD} : F.right = true ↔ -1 ≤ F.fuse ∧ -1 ≤ F.fault ∧ (F.off = true → F.fuse = -1) ∧ 0 ≤ F.len := by
  rw [FileD.right_spec]
  have := F.len_neg
  constructor
  · rintro ⟨h1, h2, h3, h4, h5⟩
    exact ⟨h2, h3, h4, by simp [h1, h5] at this; exact this⟩
  · rintro ⟨h2, h3, h4, h5⟩
    have h6 : F.full = true ∧ F.many ≤ 524288 := by
      apply Classical.byContradiction
      intro h
      have := this.2 h
      omega
    exact ⟨h6.1, h2, h3, h4, h6.2⟩

/-- Two files are one, part by part. -/
def FileD.one (F G : FileD) : Bool := decide (F.fuse = G.fuse) && (decide (F.fault = G.fault) && (decide (F.off = G.off) && (decide (F.firm = G.firm) && decide (F.loose = G.loose))))
theorem FileD.one_spec {F G : FileD} : F.one G = true ↔ F = G := by
  cases F; cases G
  simp [FileD.one]
  constructor
  · rintro ⟨h1, h2, h3, h4, h5⟩; exact ⟨h4, h5, h1, h2, h3⟩
  · rintro ⟨h1, h2, h3, h4, h5⟩; exact ⟨h3, h4, h5, h1, h2⟩
theorem FileD.one_self (F : FileD) : F.one F = true := FileD.one_spec.2 rfl
/-- What is asked ahead of an operation that brings so many bytes, and what it comes to. -/
def FileD.asked (F : FileD) (more : Int) : FileD × Int :=
  if F.off = true then (F, 10)
  else if 524288 - (F.many : Int) < more then (F, 8)
  else if F.fault = 0 then ({ F with fault := -1 }, 9)
  else if F.fuse = 0 then ({ F with fault := if 0 < F.fault then F.fault - 1 else F.fault, fuse := -1, off := true }, 10)
  else ({ F with fault := if 0 < F.fault then F.fault - 1 else F.fault, fuse := if 0 < F.fuse then F.fuse - 1 else F.fuse }, 0)
/-- What an operation comes to. -/
def FileD.op (F : FileD) (more : Int) (g : FileD → FileD) : FileD × Int :=
  if F.right = true then (if (F.asked more).2 = 0 then (g (F.asked more).1, 0) else F.asked more) else (F, 200)
def FileD.append (F : FileD) (b : List UInt8) : FileD × Int :=
  if F.right = true ∧ b = [] then (F, 2) else F.op b.length fun G => { G with loose := G.loose ++ [b] }
def FileD.sync (F : FileD) : FileD × Int := F.op 0 fun G => { G with firm := G.all, loose := [] }
def FileD.set (F : FileD) (g : FileD → FileD) : FileD × Int :=
  if F.right = true then (if F.off = true then (F, 10) else (g F, 0)) else (F, 200)
def FileD.light (F : FileD) (n : Int) : FileD × Int := F.set fun G => { G with fuse := max n (-1) }
def FileD.refuse (F : FileD) (n : Int) : FileD × Int := F.set fun G => { G with fault := max n (-1) }
def FileD.none : FileD := ⟨[], [], -1, -1, false⟩

/-- Where bytes may lie: in the blocks that S names. -/
def BytesIn (S : Nat → Prop) (a : Option Addr) (l : List UInt8) : Prop := ∀ (k : Nat) (x : UInt8), l[k]? = some x → ∃ b o : Nat, a = some ⟨b, o, none⟩ ∧ S b
structure BytesS (W : World) (S : Nat → Prop) (a : Option Addr) (len cap : Nat) (l : List UInt8) : Prop where
  at_ : BytesAt W a len cap l
  in_ : BytesIn S a l
structure LooseS (W : World) (S : Nat → Prop) (a : Option Addr) (len cap : Nat) (L : List (List UInt8)) : Prop where
  hlen : L.length = len
  hcap : len ≤ cap
  hmax : cap ≤ maxLen
  hfew : len ≤ 140737488355328
  hat : ∀ k p, L[k]? = some p → ∃ b o pa pl pc, a = some ⟨b, o, none⟩ ∧ b < W.heap.size ∧ S b ∧ W.cell? ⟨b, o + k, none⟩ = some (.slice pa pl pc) ∧ BytesS W S pa pl pc p
  hnil : a = none → cap = 0
structure FileS (W : World) (S : Nat → Prop) (fa : Option Addr) (fl fc : Nat) (la : Option Addr) (ll lc : Nat) (F : FileD) : Prop where
  firm : BytesS W S fa fl fc F.firm
  loose : LooseS W S la ll lc F.loose
  fuse : I64' F.fuse
  fault : I64' F.fault

theorem LooseS.at_ {W : World} {S : Nat → Prop} {a : Option Addr} {len cap : Nat} {L : List (List UInt8)} (h : LooseS W S a len cap L) : LooseAt W a len cap L :=
  ⟨h.hlen, h.hcap, h.hmax, h.hfew, fun k p hk => by
    obtain ⟨b, o, pa, pl, pc, h1, h2, _, h3, h4⟩ := h.hat k p hk
    exact ⟨b, o, pa, pl, pc, h1, h2, h3, h4.at_⟩, h.hnil⟩
theorem FileS.at_ {W : World} {S : Nat → Prop} {fa la : Option Addr} {fl fc ll lc : Nat} {F : FileD} (h : FileS W S fa fl fc la ll lc F) : FileAt W fa fl fc la ll lc F :=
  ⟨h.firm.at_, h.loose.at_, h.fuse, h.fault⟩
theorem BytesS.same {W W' : World} {S : Nat → Prop} {a : Option Addr} {len cap : Nat} {l : List UInt8} (h : BytesS W S a len cap l) (hs : W.heap.size ≤ W'.heap.size) (hb : ∀ b, S b → b < W.heap.size → W'.heap[b]? = W.heap[b]?) : BytesS W' S a len cap l :=
  ⟨⟨h.at_.hlen, h.at_.hcap, h.at_.hmax, h.at_.hfew, fun k x hk => by
    obtain ⟨b, o, h1, h2, h3⟩ := h.at_.hat k x hk
    obtain ⟨b', o', h1', h4⟩ := h.in_ k x hk
    rw [h1] at h1'; cases h1'
    exact ⟨b, o, h1, by omega, (World.cell?_of_block (hb b h4 h2)).trans h3⟩, h.at_.hnil⟩, h.in_⟩
theorem LooseS.same {W W' : World} {S : Nat → Prop} {a : Option Addr} {len cap : Nat} {L : List (List UInt8)} (h : LooseS W S a len cap L) (hs : W.heap.size ≤ W'.heap.size) (hb : ∀ b, S b → b < W.heap.size → W'.heap[b]? = W.heap[b]?) : LooseS W' S a len cap L :=
  ⟨h.hlen, h.hcap, h.hmax, h.hfew, fun k p hk => by
    obtain ⟨b, o, pa, pl, pc, h1, h2, h3, h4, h5⟩ := h.hat k p hk
    exact ⟨b, o, pa, pl, pc, h1, by omega, h3, (World.cell?_of_block (hb b h3 h2)).trans h4, h5.same hs hb⟩, h.hnil⟩
theorem FileS.same {W W' : World} {S : Nat → Prop} {fa la : Option Addr} {fl fc ll lc : Nat} {F : FileD} (h : FileS W S fa fl fc la ll lc F) (hs : W.heap.size ≤ W'.heap.size) (hb : ∀ b, S b → b < W.heap.size → W'.heap[b]? = W.heap[b]?) : FileS W' S fa fl fc la ll lc F :=
  ⟨h.firm.same hs hb, h.loose.same hs hb, h.fuse, h.fault⟩
theorem BytesS.ext {W W' : World} {S : Nat → Prop} {a : Option Addr} {len cap : Nat} {l : List UInt8} (h : BytesS W S a len cap l) (hb : Below W.heap.size W W') : BytesS W' S a len cap l := h.same hb.size fun b _ h2 => hb.block b h2
theorem LooseS.ext {W W' : World} {S : Nat → Prop} {a : Option Addr} {len cap : Nat} {L : List (List UInt8)} (h : LooseS W S a len cap L) (hb : Below W.heap.size W W') : LooseS W' S a len cap L := h.same hb.size fun b _ h2 => hb.block b h2
theorem FileS.ext {W W' : World} {S : Nat → Prop} {fa la : Option Addr} {fl fc ll lc : Nat} {F : FileD} (h : FileS W S fa fl fc la ll lc F) (hb : Below W.heap.size W W') : FileS W' S fa fl fc la ll lc F := h.same hb.size fun b _ h2 => hb.block b h2
theorem BytesIn.mono {S T : Nat → Prop} {a : Option Addr} {l : List UInt8} (h : BytesIn S a l) (hst : ∀ b, S b → T b) : BytesIn T a l := fun k x hk => by
  obtain ⟨b, o, h1, h2⟩ := h k x hk
  exact ⟨b, o, h1, hst b h2⟩
theorem BytesS.mono {W : World} {S T : Nat → Prop} {a : Option Addr} {len cap : Nat} {l : List UInt8} (h : BytesS W S a len cap l) (hst : ∀ b, S b → T b) : BytesS W T a len cap l := ⟨h.at_, h.in_.mono hst⟩
theorem LooseS.mono {W : World} {S T : Nat → Prop} {a : Option Addr} {len cap : Nat} {L : List (List UInt8)} (h : LooseS W S a len cap L) (hst : ∀ b, S b → T b) : LooseS W T a len cap L :=
  ⟨h.hlen, h.hcap, h.hmax, h.hfew, fun k p hk => by
    obtain ⟨b, o, pa, pl, pc, h1, h2, h3, h4, h5⟩ := h.hat k p hk
    exact ⟨b, o, pa, pl, pc, h1, h2, hst b h3, h4, h5.mono hst⟩, h.hnil⟩
theorem FileS.mono {W : World} {S T : Nat → Prop} {fa la : Option Addr} {fl fc ll lc : Nat} {F : FileD} (h : FileS W S fa fl fc la ll lc F) (hst : ∀ b, S b → T b) : FileS W T fa fl fc la ll lc F :=
  ⟨h.firm.mono hst, h.loose.mono hst, h.fuse, h.fault⟩
theorem BytesAt.s {W : World} {a : Option Addr} {len cap : Nat} {l : List UInt8} (h : BytesAt W a len cap l) : BytesS W (fun b => b < W.heap.size) a len cap l :=
  ⟨h, fun k x hk => by obtain ⟨b, o, h1, h2, _⟩ := h.hat k x hk; exact ⟨b, o, h1, h2⟩⟩
theorem LooseAt.s {W : World} {a : Option Addr} {len cap : Nat} {L : List (List UInt8)} (h : LooseAt W a len cap L) : LooseS W (fun b => b < W.heap.size) a len cap L :=
  ⟨h.hlen, h.hcap, h.hmax, h.hfew, fun k p hk => by
    obtain ⟨b, o, pa, pl, pc, h1, h2, h3, h4⟩ := h.hat k p hk
    exact ⟨b, o, pa, pl, pc, h1, h2, h2, h3, h4.s⟩, h.hnil⟩
theorem FileAt.s {W : World} {fa la : Option Addr} {fl fc ll lc : Nat} {F : FileD} (h : FileAt W fa fl fc la ll lc F) : FileS W (fun b => b < W.heap.size) fa fl fc la ll lc F :=
  ⟨h.firm.s, h.loose.s, h.fuse, h.fault⟩
theorem BytesS.nil_ {W : World} {S : Nat → Prop} : BytesS W S none 0 0 [] := ⟨⟨rfl, Nat.le_refl _, by unfold maxLen; omega, by omega, fun k x hk => by simp at hk, fun _ => rfl⟩, fun k x hk => by simp at hk⟩
theorem LooseS.nil_ {W : World} {S : Nat → Prop} : LooseS W S none 0 0 [] := ⟨rfl, Nat.le_refl _, by unfold maxLen; omega, by omega, fun k x hk => by simp at hk, fun _ => rfl⟩

/-- The blocks of S, and what a call that began in w has made. -/
def Or (S : Nat → Prop) (w : World) (b : Nat) : Prop := S b ∨ w.heap.size ≤ b
/-- A file and an error are handed back. -/
def GivesFile (w : World) (S : Nat → Prop) (F : FileD) (err : Int) (e : Ending) (w' : World) : Prop :=
  ∃ fa fl fc la ll lc, e = .returned (.tuple #[.agg #[.slice fa fl fc, .slice la ll lc, .int .i64 F.fuse, .int .i64 F.fault, .bool F.off], .int .i64 err]) ∧ FileS w' (Or S w) fa fl fc la ll lc F ∧ Below w.heap.size w w'

theorem BytesAt.nil_ {W : World} : BytesAt W none 0 0 [] := ⟨rfl, Nat.le_refl _, by unfold maxLen; omega, by omega, fun k x hk => by simp at hk, fun _ => rfl⟩
theorem LooseAt.nil_ {W : World} : LooseAt W none 0 0 [] := ⟨rfl, Nat.le_refl _, by unfold maxLen; omega, by omega, fun k x hk => by simp at hk, fun _ => rfl⟩
end Go.Dav

namespace Go.Dav
set_option linter.unusedVariables false
set_option linter.unusedSimpArgs false
open Go Go.Joins Go.ChangeShapes Go.WideShapes Go.RowKit Go.Deep

section
variable {H : Type} {enc : TypeId × Value → H} {P : Program} {w : World} {base : Nat} {spare : Nat → Bool} {held : Bool}
theorem open_slice_fields {t e : TypeId} {fs : Array Field} {fuel : Nat} {cs : List Value} {x : DataW H × List MemPlace} (ht : P.underlying t = some (.slice e)) (he : P.underlying e = some (.struct fs))
    (hone : oneCellFields P fs = true) (hC : P.cellsOf e = fs.size) (h : DataW.trod enc P w base spare held fuel t cs = some x) :
    (cs = [.slice none 0 0] ∧ x = (.nil, [])) ∨
    ∃ (a : Addr) (len cap m : Nat) (D : Nat → DataW H) (Pl : Nat → List MemPlace), cs = [.slice (some a) len cap] ∧ base ≤ a.block ∧ len ≤ cap ∧ cap ≤ maxLen ∧ m = (if spare a.block then cap else len) ∧
      x = (.slice ((List.range len).map D) ((List.range (m - len)).map fun j => D (len + j)), MemPlace.row a (m * fs.size) ++ (List.range m).flatMap Pl) ∧
      ∀ i, i < m → ∃ (ys : List (DataW H × List MemPlace)) (n : Nat), D i = .agg (ys.map (·.1)) ∧ Pl i = ys.flatMap (·.2) ∧ ys.length = fs.size ∧
        ∀ (j : Nat) (f : Field), fs[j]? = some f → ∃ (v : Value) (y : DataW H × List MemPlace), w.cell? (a.add (i * fs.size + j)) = some v ∧ ys[j]? = some y ∧ DataW.trod enc P w base spare held n f.type [v] = some y := by
  rcases open_slice ht h with h0 | ⟨a, len, cap, m, n, D, Pl, hcs, hb, hl, hm, hmm, hx, hi⟩
  · exact .inl h0
  · refine .inr ⟨a, len, cap, m, D, Pl, hcs, hb, hl, hm, hmm, by rw [hC] at hx; exact hx, fun i him => ?_⟩
    obtain ⟨cs', hc, ht'⟩ := hi i him
    rw [hC] at hc
    obtain ⟨ys, n', hn', hy, hlen, hyl, hf⟩ := DataW.trod_struct he ht'
    obtain ⟨_, hcl, hat⟩ := World.cells?_some hc
    simp only [Prod.mk.injEq] at hy
    refine ⟨ys, n', hy.1, hy.2, hyl, fun j f hj => ?_⟩
    obtain ⟨ho, hk⟩ := hone_of hone j f hj
    have hjl : j < fs.size := (Array.getElem?_eq_some_iff.1 hj).1
    have hcell := hat j hjl
    have hv : cs'[j]? = some (cs'[j]'(by omega)) := List.getElem?_eq_getElem (by omega)
    have h1 := hf j f hj
    rw [ho, hk] at h1
    have hone' : (cs'.drop j).take 1 = [cs'[j]'(by omega)] := by
      rw [List.drop_eq_getElem_cons (by omega)]
      rfl
    rw [hone'] at h1
    have hys : ys[j]? = some (ys[j]'(by omega)) := List.getElem?_eq_getElem (by omega)
    refine ⟨_, _, ?_, hys, h1.trans hys⟩
    rw [← Go.Deep.add_add, hcell, hv]
end

section
variable {H : Type} {enc : TypeId × Value → H} {P : Program} {w : World} {base : Nat} {spare : Nat → Bool} {held : Bool}
theorem open_agg5 {r : Reach} {b0 : Nat} {t : TypeId} {f0 f1 f2 f3 f4 : Field} {v : Value} {d : DataW H} {p : List MemPlace} (hs : P.underlying t = some (.struct #[f0, f1, f2, f3, f4])) (hone : oneCellFields P #[f0, f1, f2, f3, f4] = true) (hC : P.cellsOf t = 5)
    (hv : Value.okWide P w r b0 t v) (h : DataW.Trod enc P w base spare held t v d p) :
    ∃ (v0 v1 v2 v3 v4 : Value) (y0 y1 y2 y3 y4 : DataW H × List MemPlace) (n : Nat), v = .agg #[v0, v1, v2, v3, v4] ∧ d = .agg [y0.1, y1.1, y2.1, y3.1, y4.1] ∧ p = y0.2 ++ (y1.2 ++ (y2.2 ++ (y3.2 ++ y4.2))) ∧
      DataW.trod enc P w base spare held n f0.type [v0] = some y0 ∧ DataW.trod enc P w base spare held n f1.type [v1] = some y1 ∧ DataW.trod enc P w base spare held n f2.type [v2] = some y2 ∧ DataW.trod enc P w base spare held n f3.type [v3] = some y3 ∧ DataW.trod enc P w base spare held n f4.type [v4] = some y4 := by
  obtain ⟨cs, rfl, hsz⟩ := okWide_struct hs hv
  obtain ⟨l⟩ := cs
  match l, hsz.trans hC with
  | [c0, c1, c2, c3, c4], _ =>
    obtain ⟨fuel, hf⟩ := h
    obtain ⟨xs, n, _, hx, _, hlen, hg⟩ := DataW.trod_struct hs hf
    obtain ⟨o0, k0⟩ := hone_of hone 0 f0 rfl
    obtain ⟨o1, k1⟩ := hone_of hone 1 f1 rfl
    obtain ⟨o2, k2⟩ := hone_of hone 2 f2 rfl
    obtain ⟨o3, k3⟩ := hone_of hone 3 f3 rfl
    obtain ⟨o4, k4⟩ := hone_of hone 4 f4 rfl
    match xs, hlen with
    | [y0, y1, y2, y3, y4], _ =>
      simp only [Prod.mk.injEq] at hx
      exact ⟨c0, c1, c2, c3, c4, y0, y1, y2, y3, y4, n, rfl, by simpa using hx.1, by simpa using hx.2, by simpa [Value.cells, o0, k0] using hg 0 f0 rfl, by simpa [Value.cells, o1, k1] using hg 1 f1 rfl, by simpa [Value.cells, o2, k2] using hg 2 f2 rfl, by simpa [Value.cells, o3, k3] using hg 3 f3 rfl, by simpa [Value.cells, o4, k4] using hg 4 f4 rfl⟩

theorem open_agg6 {r : Reach} {b0 : Nat} {t : TypeId} {f0 f1 f2 f3 f4 f5 : Field} {v : Value} {d : DataW H} {p : List MemPlace} (hs : P.underlying t = some (.struct #[f0, f1, f2, f3, f4, f5])) (hone : oneCellFields P #[f0, f1, f2, f3, f4, f5] = true) (hC : P.cellsOf t = 6)
    (hv : Value.okWide P w r b0 t v) (h : DataW.Trod enc P w base spare held t v d p) :
    ∃ (v0 v1 v2 v3 v4 v5 : Value) (y0 y1 y2 y3 y4 y5 : DataW H × List MemPlace) (n : Nat), v = .agg #[v0, v1, v2, v3, v4, v5] ∧ d = .agg [y0.1, y1.1, y2.1, y3.1, y4.1, y5.1] ∧ p = y0.2 ++ (y1.2 ++ (y2.2 ++ (y3.2 ++ (y4.2 ++ y5.2)))) ∧
      DataW.trod enc P w base spare held n f0.type [v0] = some y0 ∧ DataW.trod enc P w base spare held n f1.type [v1] = some y1 ∧ DataW.trod enc P w base spare held n f2.type [v2] = some y2 ∧ DataW.trod enc P w base spare held n f3.type [v3] = some y3 ∧ DataW.trod enc P w base spare held n f4.type [v4] = some y4 ∧ DataW.trod enc P w base spare held n f5.type [v5] = some y5 := by
  obtain ⟨cs, rfl, hsz⟩ := okWide_struct hs hv
  obtain ⟨l⟩ := cs
  match l, hsz.trans hC with
  | [c0, c1, c2, c3, c4, c5], _ =>
    obtain ⟨fuel, hf⟩ := h
    obtain ⟨xs, n, _, hx, _, hlen, hg⟩ := DataW.trod_struct hs hf
    obtain ⟨o0, k0⟩ := hone_of hone 0 f0 rfl
    obtain ⟨o1, k1⟩ := hone_of hone 1 f1 rfl
    obtain ⟨o2, k2⟩ := hone_of hone 2 f2 rfl
    obtain ⟨o3, k3⟩ := hone_of hone 3 f3 rfl
    obtain ⟨o4, k4⟩ := hone_of hone 4 f4 rfl
    obtain ⟨o5, k5⟩ := hone_of hone 5 f5 rfl
    match xs, hlen with
    | [y0, y1, y2, y3, y4, y5], _ =>
      simp only [Prod.mk.injEq] at hx
      exact ⟨c0, c1, c2, c3, c4, c5, y0, y1, y2, y3, y4, y5, n, rfl, by simpa using hx.1, by simpa using hx.2, by simpa [Value.cells, o0, k0] using hg 0 f0 rfl, by simpa [Value.cells, o1, k1] using hg 1 f1 rfl, by simpa [Value.cells, o2, k2] using hg 2 f2 rfl, by simpa [Value.cells, o3, k3] using hg 3 f3 rfl, by simpa [Value.cells, o4, k4] using hg 4 f4 rfl, by simpa [Value.cells, o5, k5] using hg 5 f5 rfl⟩
end

end Go.Dav

namespace Go.Proofs.Ythpdcbklaapngaa
set_option linter.unusedVariables false
set_option linter.unusedSimpArgs false
open Go.ChangeShapes Go.WideShapes Go.ChangeAt Go.RowKit Go.Joins Go.Dav Go.Deep

/-- A list that answers at every place below n, where each place has an answer. -/
theorem Try_listOf {α : Type} {p : Nat → α → Prop} : ∀ (n : Nat), (∀ i, i < n → ∃ x, p i x) → ∃ l : List α, l.length = n ∧ ∀ i x, l[i]? = some x → p i x
  | 0, _ => ⟨[], rfl, fun i x h => by simp at h⟩
  | n + 1, h => by
    obtain ⟨l, hl, hp⟩ := Try_listOf (p := p) n (fun i hi => h i (by omega))
    obtain ⟨x, hx⟩ := h n (by omega)
    refine ⟨l ++ [x], by simp [hl], fun i y hy => ?_⟩
    by_cases hi : i < l.length
    · rw [List.getElem?_append_left hi] at hy; exact hp i y hy
    · rw [List.getElem?_append_right (by omega)] at hy
      have : i - l.length = 0 := by
        have := (List.getElem?_eq_some_iff.1 hy).1
        simp at this; omega
      rw [this] at hy
      have e : x = y := by simpa using hy
      have : i = n := by omega
      subst this e
      exact hx

theorem weightsAll_mem {H : Type} {P : Program} {e : TypeId} {n : Nat} : ∀ {ds : List (DataW H)} {i : Nat} {d : DataW H}, ds[i]? = some d → n ∈ d.weights P e → n ∈ DataW.weightsAll P e ds
  | d0 :: ds, 0, d, hd, hn => by
    simp only [List.getElem?_cons_zero, Option.some.injEq] at hd
    subst hd
    simp only [DataW.weightsAll, List.mem_append]
    exact .inl hn
  | d0 :: ds, i + 1, d, hd, hn => by
    simp only [List.getElem?_cons_succ] at hd
    simp only [DataW.weightsAll, List.mem_append]
    exact .inr (weightsAll_mem hd hn)
  | [], _, _, hd, _ => by simp at hd
theorem i64_wf {x : Int} (h : (Lit.int .i64 x).wf = true) : I64' x := by
  have := bounds_i64 h
  unfold I64'
  omega

section
variable {H : Type} {enc : TypeId × Value → H} {w : World} {base : Nat} {spare : Nat → Bool} {held : Bool}

set_option maxRecDepth 100000 in
theorem Try_bytes_open {fuel : Nat} {v : Value} {y : DataW H × List MemPlace} (h : DataW.trod enc Try.prog w base spare held fuel 24 [v] = some y) (hs : ∀ n ∈ y.1.weights Try.prog 24, n ≤ reachBytes) :
    ∃ (a : Option Addr) (len cap : Nat) (l : List UInt8), v = .slice a len cap ∧ BytesAt w a len cap l := by
  rcases open_slice1 Try.underlying24 (by kernel_rfl) h with ⟨hc, _⟩ | ⟨a, len, cap, m, n, V, D, Pl, hc, _, hl, hm, hmm, rfl, hi⟩
  · simp only [List.cons.injEq, and_true] at hc
    exact ⟨_, _, _, [], hc, BytesAt.nil_⟩
  · simp only [List.cons.injEq, and_true] at hc
    have hlm : len ≤ m := by rw [hmm]; split <;> omega
    have hb1 : Try.prog.bytesOf 5 = 1 := by kernel_rfl
    have hw := hs ((((List.range len).map D).length + ((List.range (m - len)).map fun j => D (len + j)).length) * Try.prog.bytesOf 5) (by simp [DataW.weights, Try.underlying24])
    rw [hb1] at hw
    simp only [List.length_map, List.length_range] at hw
    have key : ∀ i, i < len → ∃ x : UInt8, w.cell? (a.add i) = some (.int .u8 (x.toNat : Int)) := by
      intro i hil
      obtain ⟨h1, h2⟩ := hi i (by omega)
      obtain ⟨x, e, _, wf⟩ := DataW.trod_int Try.underlying5 h2
      simp only [List.cons.injEq, and_true] at e
      have hx := bounds_u8 wf
      refine ⟨UInt8.ofNat x.toNat, ?_⟩
      rw [h1, e]
      have : (UInt8.ofNat x.toNat).toNat = x.toNat := by rw [UInt8.toNat_ofNat']; omega
      rw [this]
      congr 2
      omega
    obtain ⟨l, hlen, hl2⟩ := Try_listOf len key
    refine ⟨some a, len, cap, l, hc, hlen, hl, hm, by unfold reachBytes at hw; omega, fun k x hk => ?_, fun e => by cases e⟩
    have hcell := hl2 k x hk
    obtain ⟨b, o, sp⟩ := a
    have hkl := (List.getElem?_eq_some_iff.1 hk).1
    have hsp := World.cell?_spot (hl2 0 _ (List.getElem?_eq_getElem (by omega : 0 < l.length)))
    have hsp : sp = none := by simpa [Addr.add] using hsp
    subst hsp
    rw [Addr.add_lit] at hcell
    exact ⟨b, o, rfl, World.block_lt_of_cell? _ _ hcell, hcell⟩

set_option maxRecDepth 100000 in
theorem Try_loose_open {fuel : Nat} {v : Value} {y : DataW H × List MemPlace} (h : DataW.trod enc Try.prog w base spare held fuel 25 [v] = some y) (hs : ∀ n ∈ y.1.weights Try.prog 25, n ≤ reachBytes) :
    ∃ (a : Option Addr) (len cap : Nat) (L : List (List UInt8)), v = .slice a len cap ∧ LooseAt w a len cap L := by
  rcases open_slice1 Try.underlying25 (by kernel_rfl) h with ⟨hc, _⟩ | ⟨a, len, cap, m, n, V, D, Pl, hc, _, hl, hm, hmm, rfl, hi⟩
  · simp only [List.cons.injEq, and_true] at hc
    exact ⟨_, _, _, [], hc, LooseAt.nil_⟩
  · simp only [List.cons.injEq, and_true] at hc
    have hlm : len ≤ m := by rw [hmm]; split <;> omega
    have hb1 : Try.prog.bytesOf 24 = 24 := by kernel_rfl
    have hw := hs ((((List.range len).map D).length + ((List.range (m - len)).map fun j => D (len + j)).length) * Try.prog.bytesOf 24) (by simp [DataW.weights, Try.underlying25])
    rw [hb1] at hw
    simp only [List.length_map, List.length_range] at hw
    have key : ∀ i, i < len → ∃ p : List UInt8, ∃ pa pl pc, w.cell? (a.add i) = some (.slice pa pl pc) ∧ BytesAt w pa pl pc p := by
      intro i hil
      obtain ⟨h1, h2⟩ := hi i (by omega)
      obtain ⟨pa, pl, pc, p, e, hb⟩ := Try_bytes_open h2 (fun k hk => hs k (by
        simp only [DataW.weights, Try.underlying25, List.mem_cons, List.mem_append]
        exact .inr (.inl (weightsAll_mem (i := i) (by simp [hil]) hk))))
      exact ⟨p, pa, pl, pc, by rw [h1, e], hb⟩
    obtain ⟨l, hlen, hl2⟩ := Try_listOf len key
    refine ⟨some a, len, cap, l, hc, hlen, hl, hm, by unfold reachBytes at hw; omega, fun k x hk => ?_, fun e => by cases e⟩
    obtain ⟨pa, pl, pc, hcell, hb⟩ := hl2 k x hk
    obtain ⟨b, o, sp⟩ := a
    have hkl := (List.getElem?_eq_some_iff.1 hk).1
    obtain ⟨_, _, _, hcell0, _⟩ := hl2 0 _ (List.getElem?_eq_getElem (by omega : 0 < l.length))
    have hsp := World.cell?_spot hcell0
    have hsp : sp = none := by simpa [Addr.add] using hsp
    subst hsp
    rw [Addr.add_lit] at hcell
    exact ⟨b, o, pa, pl, pc, rfl, World.block_lt_of_cell? _ _ hcell, hcell, hb⟩

set_option maxRecDepth 100000 in
theorem Try_file_open {r : Reach} {b0 : Nat} {v : Value} {d : DataW H} {p : List MemPlace} (hv : Value.okWide Try.prog w r b0 27 v) (h : DataW.Trod enc Try.prog w base spare held 27 v d p) (hs : ∀ n ∈ d.weights Try.prog 27, n ≤ reachBytes) :
    ∃ (fa : Option Addr) (fl fc : Nat) (la : Option Addr) (ll lc : Nat) (F : FileD), v = .agg #[.slice fa fl fc, .slice la ll lc, .int .i64 F.fuse, .int .i64 F.fault, .bool F.off] ∧ FileAt w fa fl fc la ll lc F := by
  obtain ⟨z0, z1, z2, z3, z4, u0, u1, u2, u3, u4, fv, rfl, rfl, rfl, i0, i1, i2, i3, i4⟩ := open_agg5 Try.underlying27 (by kernel_rfl) (by kernel_rfl) hv h
  have hmem : ∀ n, (n ∈ u0.1.weights Try.prog 24 ∨ n ∈ u1.1.weights Try.prog 25) → n ≤ reachBytes := fun n hn => hs n (by
    simp only [DataW.weights, Try.underlying27, List.map_cons, List.map_nil, DataW.weightsEach, List.mem_append]
    rcases hn with h | h
    · exact .inl h
    · exact .inr (.inl h))
  obtain ⟨fa, fl, fc, firm, rfl, hf⟩ := Try_bytes_open i0 (fun n hn => hmem n (.inl hn))
  obtain ⟨la, ll, lc, loose, rfl, hl⟩ := Try_loose_open i1 (fun n hn => hmem n (.inr hn))
  obtain ⟨x2, f2, _, v2⟩ := DataW.trod_int Try.underlying3 i2
  obtain ⟨x3, f3, _, v3⟩ := DataW.trod_int Try.underlying3 i3
  obtain ⟨b4, f4, _⟩ := DataW.trod_bool Try.underlying4 i4
  simp only [List.cons.injEq, and_true] at f2 f3 f4
  subst f2 f3 f4
  exact ⟨fa, fl, fc, la, ll, lc, ⟨firm, loose, x2, x3, b4⟩, rfl, hf, hl, i64_wf v2, i64_wf v3⟩
end
end Go.Proofs.Ythpdcbklaapngaa

namespace Go.Dav
set_option linter.unusedVariables false
set_option linter.unusedSimpArgs false
open Go Go.RowKit

section
variable {P : Program} {ops : Array Oper}

/-- A part of a tuple, a copy: what it yields hangs on no world. -/
def plainB (o : Oper) : Bool := o.guard.isNone && match o.op with
  | .extract _ _ => true
  | .move _ => true
  | _ => false

/-- The free ones are plain, and apart from what stands behind and from one another. -/
def freeB (ops : Array Oper) (n : Nat) (F : List Nat) : Bool :=
  F.all fun i => decide (i < n) && match ops[i]? with
    | none => false
    | some oi => plainB oi && (List.range ops.size).all fun j => j == i || (decide (j < n) && !F.contains j) || match ops[j]? with
      | some oj => oj.after.any (fun e => Region.binds .any e && e.on == i) || oi.apart ops oj
      | none => true

/-- Every one that is not free is waited for, by one behind it that is not free. -/
def sinkFB (ops : Array Oper) (n : Nat) (F : List Nat) : Bool :=
  (List.range n).all fun i => F.contains i || (List.range (n + 1)).any fun j => decide (i < j) && !F.contains j && Region.waitsFor .any ops j i

def partsFB (ops : Array Oper) (n : Nat) (F : List Nat) : Bool :=
  Region.noSelect ops && tidyB ops n && backB ops n && decide (n < ops.size) && (sinkFB ops n F && Region.chainB .any ops n) && freeB ops n F &&
    Region.seqB .any ops (ops.size - n) n ((Array.range ops.size).map fun j => decide (j < n)) && !F.contains n

theorem tail_waitsF {n : Nat} {F : List Nat} {listed : Array Bool} (hs : sinkFB ops n F = true) (hc : Region.chainB .any ops n = true) (hn : n < ops.size) (hF : F.contains n = false) (inv : HeadInv .any ops n listed) :
    ∀ (d i : Nat), n - i = d → i < n → F.contains i = false → listed.getD i true = false → ∀ t, n ≤ t → t ∉ Region.ready .any ops listed := by
  intro d
  induction d using Nat.strongRecOn with
  | _ d ih =>
    intro i hd hi hfi hun t ht hr
    obtain ⟨_, ot, hot, hall⟩ := mem_ready.1 hr
    have htlt : t < ops.size := (Array.getElem?_eq_some_iff.1 hot).1
    by_cases htn : t = n
    · subst htn
      have h1 := List.all_eq_true.1 hs i (List.mem_range.2 hi)
      rw [hfi, Bool.false_or] at h1
      obtain ⟨j, hj, hj2⟩ := List.any_eq_true.1 h1
      simp only [Bool.and_eq_true, decide_eq_true_eq, Bool.not_eq_true'] at hj2
      obtain ⟨oj, hoj, e, he, hb, hon⟩ := Region.waitsFor_spec hj2.2
      have hjle : j ≤ t := by have := List.mem_range.1 hj; omega
      by_cases hjt : j = t
      · subst hjt
        have : oj = ot := Option.some.inj (hoj.symm.trans hot)
        subst this
        have h2 := hall e he hb
        rw [hon, getD_both hun] at h2
        cases h2
      · cases hl : listed.getD j false with
        | true =>
          have h2 := inv.closed j oj hoj hl e he hb
          rw [hon, getD_both hun] at h2
          cases h2
        | false =>
          have hjs : j < listed.size := by rw [inv.size]; omega
          exact ih (t - j) (by omega) j rfl (by omega) hj2.1.2 (getD_in hjs hl) t (Nat.le_refl _) hr
    · have h1 := List.all_eq_true.1 hc t (List.mem_range.2 htlt)
      simp only [Bool.or_eq_true, decide_eq_true_eq] at h1
      rcases h1 with h1 | h1
      · omega
      · obtain ⟨o', ho', e, he, hb, hon⟩ := Region.waitsFor_spec h1
        have : o' = ot := Option.some.inj (ho'.symm.trans hot)
        subst this
        have h2 := hall e he hb
        rw [hon, getD_both (inv.tail (t - 1) (by omega) (by omega))] at h2
        cases h2

/-- A plain operation yields what it yields in whatever world. -/
theorem plain_yields {o : Oper} {a : Act} {W : World} {R : Value → World → Prop} (hp : plainB o = true) (h : Gives P o a W R) :
    ∃ v, Yields P ops o v a ∧ R v W := by
  unfold plainB at hp
  simp only [Bool.and_eq_true, Option.isNone_iff_eq_none] at hp
  have hw : Region.wanted o (yielded ops a.tmps) = true := by unfold Region.wanted; rw [hp.1]
  have hop := hp.2
  cases he : o.op with
  | move x =>
    have hr : ∀ w, (execOp a.eval o).run P w = .ok (.value (a.eval x)) w := fun w => by
      simp only [execOp, he]
      rfl
    unfold Gives at h
    rw [hr] at h
    exact ⟨_, .inl ⟨hw, hr⟩, h.2⟩
  | extract x k =>
    unfold Gives at h
    cases hx : a.eval x with
    | tuple vs =>
      cases hk : vs[k]? with
      | some v =>
        have hr : ∀ w, (execOp a.eval o).run P w = .ok (.value v) w := fun w => by
          simp only [execOp, he, hx]
          simp [Instr.extract, hk, go_sem]
        rw [hr] at h
        exact ⟨_, .inl ⟨hw, hr⟩, h.2⟩
      | none =>
        exfalso
        simp only [execOp, he, hx] at h
        simp [Instr.extract, hk, go_sem] at h
    | _ =>
      exfalso
      simp only [execOp, he, hx] at h
      simp [Instr.extract, go_sem] at h
  | _ => rw [he] at hop; cases hop

/-- What an operation of the head gives, wherever its turn comes. -/
theorem mid_gives {n : Nat} {ps : Nat → Value ⊕ (Value → World → Prop)} {a0 : Act} {w0 : World} {listed : Array Bool} {vs : Nat → Value} {a : Act} {W : World}
    (hB : tidyB ops n = true) (hsel : Region.noSelect ops = true)
    (hop : ∀ vs i, i < n → stepFor P ops ps a0 w0 vs i) (inv : HeadInv .any ops n listed) (mid : Mid ops n ps a0 w0 listed vs a W)
    {i : Nat} {oi : Oper} (hr : i ∈ Region.ready .any ops listed) (hin : i < n) (hoi : ops[i]? = some oi) (hg : oi.guard = none) : Gives P oi a W (holdsOf (ps i)) := by
  obtain ⟨hun, oi', hoi', hall⟩ := mem_ready.1 hr
  obtain rfl : oi' = oi := Option.some.inj (hoi'.symm.trans hoi)
  have hunf : listed.getD i false = false := getD_both hun
  have later : ∀ j oj d, j < n → ops[j]? = some oj → oj.dst = some d → listed.getD j false = true → (d ∈ oi'.looksAt ops ∨ oi'.dst = some d) → j < i := by
    intro j oj d hj hoj hd hl hlook
    have hji : i ≠ j := fun e => by subst e; rw [hunf] at hl; cases hl
    obtain ⟨_, h1, _⟩ := tidy_spec hB hin hj hoi hoj hd (hlook.imp id fun h => ⟨h, hji⟩)
    rcases Nat.lt_trichotomy i j with h | h | h
    · obtain ⟨oj', hoj', e, he, hb, hon⟩ := Region.waitsFor_spec (h1 h)
      have := inv.closed j oj' hoj' hl e he hb
      rw [hon, hunf] at this
      cases this
    · exact absurd h hji
    · exact h
  have early : ∀ j oj d, j < i → ops[j]? = some oj → oj.dst = some d → (d ∈ oi'.looksAt ops) → listed.getD j false = true := by
    intro j oj d hj hoj hd hlook
    obtain ⟨_, _, h2⟩ := tidy_spec hB hin (by omega) hoi hoj hd (.inl hlook)
    obtain ⟨oi2, hoi2, e, he, hb, hon⟩ := Region.waitsFor_spec (h2 hj)
    have : oi2 = oi' := Option.some.inj (hoi2.symm.trans hoi)
    subst this
    have := hall e he hb
    rwa [hon] at this
  have looks : ∀ t ∈ oi'.looksAt ops, (lay ops vs a0 i).tmps[t]? = a.tmps[t]? := by
    intro t ht
    rw [lay_get, mid.slots t]
    unfold slotOf
    rw [lastW_eq (ops := ops) (t := t) (p := fun _ => true) (q := fun j => listed.getD j false) (m := i) (n := n) ?_]
    intro j
    constructor
    · rintro ⟨h1, _, h3⟩
      obtain ⟨oj, hoj, hd⟩ := Option.bind_eq_some_iff.1 h3
      exact ⟨by omega, early j oj t h1 hoj hd ht, h3⟩
    · rintro ⟨h1, h2, h3⟩
      obtain ⟨oj, hoj, hd⟩ := Option.bind_eq_some_iff.1 h3
      exact ⟨later j oj t h1 hoj hd h2 (.inl ht), rfl, h3⟩
  have hdeps : depsHold ops ps vs oi' W i := depsHold_of i fun j d hj hd hl => by
    obtain ⟨oj, hoj, hd'⟩ := Option.bind_eq_some_iff.1 hd
    exact mid.held j (by omega) (early j oj d hj hoj hd' hl)
  have hs := hop vs i hin
  unfold stepFor at hs
  simp only [hoi] at hs
  have hs := hs W mid.ext hdeps
  have hw : Region.wanted oi' (yielded ops (lay ops vs a0 i).tmps) = true := by unfold Region.wanted; rw [hg]
  rw [if_pos hw] at hs
  exact hs.of_eval (exec_congr (fun cs b => Region.noSelect_spec hsel i oi' cs b hoi) (fun t ht => (looks t ht).symm))

/-- What holds behind an operation of the head. -/
theorem mid_put {n : Nat} {ps : Nat → Value ⊕ (Value → World → Prop)} {a0 : Act} {w0 : World} {listed : Array Bool} {vs : Nat → Value} {a : Act} {W : World}
    (hB : tidyB ops n = true) (hst : ∀ j R, ps j = .inr R → ∀ v W W', R v W → Below W.heap.size W W' → R v W')
    (inv : HeadInv .any ops n listed) (mid : Mid ops n ps a0 w0 listed vs a W)
    {i : Nat} {oi : Oper} (hr : i ∈ Region.ready .any ops listed) (hin : i < n) (hoi : ops[i]? = some oi) {v : Value} {W' : World} (hb : Below W.heap.size W W') (hv : holdsOf (ps i) v W') :
    Mid ops n ps a0 w0 (listed.setIfInBounds i true) (fun j => if j = i then v else vs j) (a.put oi.dst v) W' := by
  obtain ⟨hun, oi', hoi', hall⟩ := mem_ready.1 hr
  obtain rfl : oi' = oi := Option.some.inj (hoi'.symm.trans hoi)
  have hunf : listed.getD i false = false := getD_both hun
  have hisz : i < listed.size := by rw [inv.size]; exact (Array.getElem?_eq_some_iff.1 hoi).1
  have later : ∀ j oj d, j < n → ops[j]? = some oj → oj.dst = some d → listed.getD j false = true → (d ∈ oi'.looksAt ops ∨ oi'.dst = some d) → j < i := by
    intro j oj d hj hoj hd hl hlook
    have hji : i ≠ j := fun e => by subst e; rw [hunf] at hl; cases hl
    obtain ⟨_, h1, _⟩ := tidy_spec hB hin hj hoi hoj hd (hlook.imp id fun h => ⟨h, hji⟩)
    rcases Nat.lt_trichotomy i j with h | h | h
    · obtain ⟨oj', hoj', e, he, hb, hon⟩ := Region.waitsFor_spec (h1 h)
      have := inv.closed j oj' hoj' hl e he hb
      rw [hon, hunf] at this
      cases this
    · exact absurd h hji
    · exact h
  refine ⟨ext_trans mid.ext hb, by rw [put_size, mid.size], by rw [put_defers, mid.defers], fun t => ?_, fun j hj hl => ?_⟩
  · rw [put_get, mid.size]
    unfold slotOf
    by_cases hd : oi'.dst = some t
    · simp only [hd, if_true]
      have : lastW ops (fun j => (listed.setIfInBounds i true).getD j false) t n = some i := by
        cases hc : lastW ops (fun j => (listed.setIfInBounds i true).getD j false) t n with
        | none => exact absurd ⟨by simp [hisz], by simp [hoi, hd]⟩ (lastW_none hc i hin)
        | some j =>
          obtain ⟨c1, c2, c3, c4⟩ := lastW_some hc
          obtain ⟨oj, hoj, hdj⟩ := Option.bind_eq_some_iff.1 c3
          by_cases e : j = i
          · rw [e]
          · have hlj : listed.getD j false = true := by rwa [getD_set_ne false (Ne.symm e)] at c2
            have := later j oj t c1 hoj hdj hlj (.inr hd)
            exact absurd ⟨by simp [hisz], by simp [hoi, hd]⟩ (c4 i this hin)
      rw [this]
      simp
    · simp only [hd, if_false]
      rw [mid.slots t]
      unfold slotOf
      have : lastW ops (fun j => (listed.setIfInBounds i true).getD j false) t n = lastW ops (fun j => listed.getD j false) t n := by
        refine lastW_eq fun j => ?_
        by_cases e : j = i
        · subst e; simp [hoi, hd]
        · rw [getD_set_ne false (Ne.symm e)]
      rw [this]
      cases hc : lastW ops (fun j => listed.getD j false) t n with
      | none => rfl
      | some j =>
        obtain ⟨c1, c2, c3, c4⟩ := lastW_some hc
        have e : j ≠ i := fun e => by subst e; simp [hoi, hd] at c3
        simp [e]
  · by_cases e : j = i
    · subst e; simpa using hv
    · simp only [e, if_false]
      have hl' : listed.getD j false = true := by rwa [getD_set_ne false (Ne.symm e)] at hl
      have h1 := mid.held j hj hl'
      cases hp : ps j with
      | inl u => simpa [hp, holdsOf] using h1
      | inr R => simp only [hp, holdsOf] at h1 ⊢; exact hst j R hp _ _ _ h1 hb

theorem free_spec {n : Nat} {F : List Nat} (h : freeB ops n F = true) {i : Nat} (hi : F.contains i = true) :
    i < n ∧ ∃ oi, ops[i]? = some oi ∧ plainB oi = true ∧ ∀ j oj, ops[j]? = some oj → j ≠ i → ¬ (j < n ∧ F.contains j = false) → (∀ e ∈ oj.after, Region.binds .any e = true → e.on ≠ i) → oi.apart ops oj = true := by
  have h1 := List.all_eq_true.1 h i (by simpa using hi)
  simp only [Bool.and_eq_true, decide_eq_true_eq] at h1
  obtain ⟨h1, h2⟩ := h1
  refine ⟨h1, ?_⟩
  cases ho : ops[i]? with
  | none => simp [ho] at h2
  | some oi =>
    simp only [ho, Bool.and_eq_true] at h2
    refine ⟨oi, rfl, h2.1, fun j oj hj hji hnf hno => ?_⟩
    have h3 := List.all_eq_true.1 h2.2 j (List.mem_range.2 (Array.getElem?_eq_some_iff.1 hj).1)
    simp only [hj, Bool.or_eq_true, Bool.and_eq_true, beq_iff_eq, decide_eq_true_eq, Bool.not_eq_true'] at h3
    rcases h3 with (h3 | h3) | h3 | h3
    · exact absurd h3 hji
    · exact absurd h3 hnf
    · obtain ⟨e, he, hb⟩ := Array.any_eq_true'.1 h3
      simp only [Bool.and_eq_true, beq_iff_eq] at hb
      exact absurd hb.2 (hno e he hb.1)
    · exact h3

theorem wpAny_of_midF {n : Nat} {F : List Nat} {ps : Nat → Value ⊕ (Value → World → Prop)} {a0 : Act} {w0 : World} {Q : Exit → Act → World → Prop} {l : List Oper}
    (hl : ∀ j : Nat, l[j]? = ops[n + j]?) (hll : l.length = ops.size - n)
    (hB : partsFB ops n F = true) (hst : ∀ j R, ps j = .inr R → ∀ v W W', R v W → Below W.heap.size W W' → R v W')
    (hQ : ∀ c a d v w, Q (.panic c) (Act.put a d v) w → Q (.panic c) a w)
    (hop : ∀ vs i, i < n → stepFor P ops ps a0 w0 vs i)
    (hend : ∀ vs W, Below w0.heap.size w0 W → allHold ps vs W n → wpList P ops Q l (lay ops vs a0 n) W) :
    ∀ (f : Nat) (listed : Array Bool) (vs : Nat → Value) (a : Act) (W : World), HeadInv .any ops n listed → Mid ops n ps a0 w0 listed vs a W → cnt listed n = f →
      wpAny P .any ops Q (f + (ops.size - n)) listed a W := by
  simp only [partsFB, Bool.and_eq_true, decide_eq_true_eq, Bool.not_eq_true'] at hB
  obtain ⟨⟨⟨⟨⟨⟨⟨hsel, htidy⟩, hback⟩, hn⟩, hsink, hchain⟩, hfree⟩, hseq⟩, hFn⟩ := hB
  intro f
  induction f with
  | zero =>
    intro listed vs a W inv mid hc
    have hall := cnt_zero listed n hc
    have hlisted : listed = (Array.range ops.size).map fun j => decide (j < n) := by
      apply Array.ext
      · simp [inv.size]
      · intro j h1 h2
        simp only [Array.getElem_map, Array.getElem_range]
        by_cases hj : j < n
        · have := hall j hj
          simp only [h1, Array.getD_eq_getD_getElem?, Array.getElem?_eq_getElem, Option.getD_some] at this
          simp [hj, this]
        · have := getD_both (inv.tail j (by omega) (by simpa using h2))
          simp only [h1, Array.getD_eq_getD_getElem?, Array.getElem?_eq_getElem, Option.getD_some] at this
          simp [hj, this]
    have ha : a = lay ops vs a0 n := act_ext (fun t => by
      rw [lay_get, mid.slots t]
      unfold slotOf
      rw [lastW_eq (ops := ops) (t := t) (p := fun j => listed.getD j false) (q := fun _ => true) (m := n) (n := n) ?_]
      intro j
      constructor
      · rintro ⟨h1, _, h3⟩; exact ⟨h1, rfl, h3⟩
      · rintro ⟨h1, _, h3⟩; exact ⟨h1, hall j h1, h3⟩) (by rw [mid.defers, lay_defers])
    have h := hend vs W mid.ext (allHold_of n fun j hj => mid.held j hj (hall j hj))
    rw [Nat.zero_add, ← hll]
    rw [← hlisted, ← hll] at hseq
    rw [ha]
    exact wpAny_of_seq l n listed _ W hl hseq h
  | succ f ih =>
    intro listed vs a W inv mid hc
    obtain ⟨i0, hi0, hu0, hlow⟩ := least_unlisted listed n (by omega)
    rw [show f + 1 + (ops.size - n) = (f + (ops.size - n)) + 1 by omega]
    have hr0 : i0 ∈ Region.ready .any ops listed := by
      have h1 := List.all_eq_true.1 hback i0 (List.mem_range.2 hi0)
      cases ho : ops[i0]? with
      | none => simp [ho] at h1
      | some o =>
        simp only [ho] at h1
        refine mem_ready.2 ⟨getD_in (by rw [inv.size]; omega) hu0, o, ho, fun e he hb => ?_⟩
        have h2 := Array.all_eq_true'.1 h1 e he
        simp only [hb, Bool.not_true, Bool.false_or, decide_eq_true_eq] at h2
        exact hlow e.on h2
    by_cases hex : ∃ i1, i1 < n ∧ F.contains i1 = false ∧ listed.getD i1 false = false
    · obtain ⟨i1, hi1, hf1, hu1⟩ := hex
      refine ⟨fun h => (by rw [h] at hr0; cases hr0), fun i hi => ?_⟩
      have hin : i < n := by
        rcases Nat.lt_or_ge i n with h | h
        · exact h
        · exact absurd hi (tail_waitsF hsink hchain hn hFn inv _ i1 rfl hi1 hf1 (getD_in (by rw [inv.size]; omega) hu1) i h)
      have hun := (mem_ready.1 hi).1
      refine mid_step htidy hsel hst hop inv mid hi hin fun vs' a' W' inv' mid' => ih _ vs' a' W' inv' mid' ?_
      have := cnt_set listed i (by rw [inv.size]; omega) (getD_both hun) n hin
      omega
    · have hF0 : F.contains i0 = true := by
        cases h : F.contains i0 with
        | true => rfl
        | false => exact absurd ⟨i0, hi0, h, hu0⟩ hex
      obtain ⟨_, oi, hoi, hpl, hap⟩ := free_spec hfree hF0
      have hg := mid_gives htidy hsel hop inv mid hr0 hi0 hoi (by simp only [plainB, Bool.and_eq_true, Option.isNone_iff_eq_none] at hpl; exact hpl.1)
      obtain ⟨v, hy, hv⟩ := plain_yields (ops := ops) hpl hg
      have hun := (mem_ready.1 hr0).1
      refine wpAny_first (v := v) hoi (fun j o cs b ho => Region.noSelect_spec hsel j o cs b ho) (fun c a w h => hQ c a _ _ w h) _ listed a W (fun j oj hj hji hjun hno => hap j oj hj hji (fun ⟨h1, h2⟩ => hex ⟨j, h1, h2, getD_both hjun⟩) hno) hr0 hy ?_
      refine ih _ (fun j => if j = i0 then v else vs j) _ W (inv.set hr0 hi0) (mid_put htidy hst inv mid hr0 hi0 hoi (Below.refl _ _) hv) ?_
      have := cnt_set listed i0 (by rw [inv.size]; omega) (getD_both hun) n hi0
      omega

theorem wp_region_partsF {id : Nat} {ops : List Oper} {Q : Exit → Act → World → Prop} {a : Act} {w : World} (n : Nat) (F : List Nat) (ps : Nat → Value ⊕ (Value → World → Prop)) (hm : P.follows .mixedOrders = true) (hB : partsFB ops.toArray n F = true)
    (hst : ∀ j R, ps j = .inr R → ∀ v W W', R v W → Below W.heap.size W W' → R v W')
    (hQ : ∀ c a d v w, Q (.panic c) (Act.put a d v) w → Q (.panic c) a w)
    (hop : ∀ vs i, i < n → stepFor P ops.toArray ps a w vs i)
    (hend : ∀ vs W, Below w.heap.size w W → allHold ps vs W n → wpList P ops.toArray Q (ops.drop n) (lay ops.toArray vs a n) W) : (Code.region id ops.toArray true).wp P Q a w := by
  have hn : n < ops.toArray.size := by
    simp only [partsFB, Bool.and_eq_true, decide_eq_true_eq] at hB
    exact hB.1.1.1.1.2
  have he : Below w.heap.size w { w with drawn := w.drawn + 1 } := (Below.refl _ _).drew
  have hc : ∀ m, cnt (Array.replicate ops.toArray.size false) m = m := fun m => by
    induction m with
    | zero => rfl
    | succ m ih => rw [cnt, ih, getD_replicate_false]; rfl
  refine wp_region_any hm ?_
  have := wpAny_of_midF (P := P) (ops := ops.toArray) (l := ops.drop n) (fun j => by simp [List.getElem?_drop]) (by simp) hB hst hQ hop hend n (Array.replicate ops.toArray.size false) (fun _ => undef) a { w with drawn := w.drawn + 1 }
    ⟨by simp, fun j oj _ hl => (by rw [getD_replicate_false] at hl; cases hl), fun t _ ht => getD_in (by simpa using ht) (getD_replicate_false _ _)⟩
    ⟨he, rfl, rfl, fun t => ?_, fun j _ hl => (by rw [getD_replicate_false] at hl; cases hl)⟩ (hc n)
  · rwa [show n + (ops.toArray.size - n) = ops.toArray.size by omega] at this
  · unfold slotOf
    rw [show lastW ops.toArray (fun j => (Array.replicate ops.toArray.size false).getD j false) t n = none from ?_]
    cases h : lastW ops.toArray (fun j => (Array.replicate ops.toArray.size false).getD j false) t n with
    | none => rfl
    | some j => have := (lastW_some h).2.1; rw [getD_replicate_false] at this; cases this

/-- What stands behind, where nothing panics. -/
def noPanic (Q : Exit → Act → World → Prop) : Exit → Act → World → Prop
  | .panic _ => fun _ _ => False
  | e => Q e
theorem noPanic.of {Q : Exit → Act → World → Prop} {e : Exit} {a : Act} {w : World} (h : noPanic Q e a w) : Q e a w := by
  cases e <;> first | exact h | exact h.elim
theorem noPanic_normal {Q : Exit → Act → World → Prop} {a : Act} {w : World} (h : Q .normal a w) : noPanic Q .normal a w := h

/-- **A region that draws its order**, walked in the order of the text; F lists the operations that may also come after the stores at its end. -/
theorem wp_region_seqF {id : Nat} {l : List Oper} {Q : Exit → Act → World → Prop} {a : Act} {w : World} (F : List Nat) (ps : List Piece) (hm : P.follows .mixedOrders = true) (hB : partsFB l.toArray ps.length F = true)
    (h : wpParts P l.toArray w (noPanic Q) l ps [] a) : (Code.region id l.toArray true).wp P Q a w := by
  refine Code.wp_mono (Q := noPanic Q) (fun e a w h => h.of) ?_
  have hn : ps.length ≤ l.length := by
    simp only [partsFB, Bool.and_eq_true, decide_eq_true_eq] at hB
    have := hB.1.1.1.1.2
    simp at this
    omega
  have hsel : Region.noSelect l.toArray = true := by
    simp only [partsFB, Bool.and_eq_true] at hB
    exact hB.1.1.1.1.1.1.1
  have spec := fun vs => parts_spec (P := P) (ops := l.toArray) (w := w) (Q := noPanic Q) (a := a) (qs := fun i => (ps[i]?).getD (.inl undef)) vs l ps 0 (fun j => by simp) (fun j p hj => by simp [hj]) hn h
  refine wp_region_partsF ps.length F (fun i => (ps[i]?).getD (.inl undef)) hm hB ?_ (fun _ _ _ _ _ h => h) ?_ ?_
  · intro j R hj
    by_cases hlt : j < ps.length
    · exact (spec (fun _ => undef)).2.1 j R (by omega) (by omega) hj
    · have : ps[j]? = none := by simp; omega
      simp [this] at hj
  · intro vs i hi
    unfold stepFor
    obtain ⟨o, ho, hs⟩ := (spec vs).1 i (by omega) (by omega)
    rw [ho]
    intro W hW hd
    have hs := hs W hW (near_of hd)
    have looks : ∀ t ∈ o.looksAt l.toArray, (lay l.toArray (fixed (fun i => (ps[i]?).getD (.inl undef)) vs) a i).tmps[t]? = (lay l.toArray vs a i).tmps[t]? := by
      intro t ht
      rw [lay_get, lay_get]
      unfold slotOf
      cases hc : lastW l.toArray (fun _ => true) t i with
      | none => rfl
      | some j =>
        obtain ⟨c1, _, c3, _⟩ := lastW_some hc
        simp only
        rw [fixed_eq (depsHold_get hd j t c1 c3 ht)]
    rw [wanted_congr looks] at hs
    simp only
    split
    · rename_i hw; rw [if_pos hw] at hs
      refine hs.of_eval (exec_congr (fun cs b => Region.noSelect_spec hsel i o cs b ho) (fun t ht => (looks t ht).symm))
    · rename_i hw; rw [if_neg hw] at hs; exact hs
  · intro vs W hW hall
    have := (spec vs).2.2 W hW (every_of (by simpa using hall))
    have e : lay l.toArray (fixed (fun i => (ps[i]?).getD (.inl undef)) vs) a ps.length = lay l.toArray vs a ps.length := act_ext (fun t => by
      rw [lay_get, lay_get]
      unfold slotOf
      cases hc : lastW l.toArray (fun _ => true) t ps.length with
      | none => rfl
      | some j =>
        obtain ⟨c1, _, _, _⟩ := lastW_some hc
        simp only
        rw [fixed_eq (allHold_get hall j c1)]) (by rw [lay_defers, lay_defers])
    rw [Nat.zero_add, e] at this
    exact this

end
end Go.Dav
