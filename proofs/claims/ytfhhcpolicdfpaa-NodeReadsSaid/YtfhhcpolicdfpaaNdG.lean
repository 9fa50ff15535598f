/-
  A region that draws its order, some of whose operations write, one behind the other; all others yield known values whatever has been written.
  The number that some bytes are, the highest first, in plain.
  Only some blocks are written.
  Layer 14: the bytes that are left while a node is decoded; take and number, walked.
  Layer 14: an item and a kid read, walked.
-/
import Derived.Test.YtfhhcpolicdfpaaNdA
import Derived.Laws.BitsLemmas
import Derived.Test.YtfhhcpolicdfpaaNdF
namespace Go.Dav
set_option linter.unusedVariables false
set_option linter.unusedSimpArgs false
open Go Go.RowKit

def GivesC (P : Program) (o : Oper) (a : Act) (W : World) (v : Value) (Q : World → Prop) : Prop :=
  match (execOp a.eval o).run P W with
  | .ok (.value u) W' => u = v ∧ Q W'
  | .ok .skip W' => undef = v ∧ Q W'
  | .ok (.enter f args) W' => Calls P f args W' (fun e W'' => e = .returned v ∧ Q W'')
  | _ => False
theorem wp_of_givesC {P : Program} {o : Oper} {a : Act} {W : World} {v : Value} {R : World → Prop} {K : Act → World → Prop} {Q : Exit → Act → World → Prop}
    (h : GivesC P o a W v R) (hk : ∀ W', R W' → K (a.put o.dst v) W') : o.wp P a W K Q := by
  unfold GivesC at h
  unfold Oper.wp
  generalize (execOp a.eval o).run P W = r at *
  cases r with
  | ok n w' =>
    cases n <;> simp only [Oper.upon] at h ⊢
    case value u => obtain ⟨rfl, h⟩ := h; exact hk _ h
    case skip => obtain ⟨rfl, h⟩ := h; exact hk _ h
    case enter f args =>
      refine h.mono fun e w'' ⟨he, hr⟩ => ?_
      subst he
      exact hk _ hr
  | halt x w' => cases h
theorem GivesC.of_eval {P : Program} {o : Oper} {a a' : Act} {W : World} {v : Value} {Q : World → Prop} (h : GivesC P o a W v Q) (he : execOp a'.eval o = execOp a.eval o) : GivesC P o a' W v Q := by
  unfold GivesC at *
  rwa [he]

section
variable {P : Program} {ops : Array Oper} {Inv : Nat → World → Prop} {ws : List Nat}

/-- The writers: each waits for the one ahead of it. -/
def chainedB (ops : Array Oper) : List Nat → Bool
  | p :: q :: l => Region.waitsFor .any ops q p && (decide (p < q) && chainedB ops (q :: l))
  | _ => true
theorem chained_spec : ∀ {ws : List Nat} {k p q : Nat}, chainedB ops ws = true → ws[k]? = some p → ws[k + 1]? = some q → Region.waitsFor .any ops q p = true ∧ p < q
  | [], k, p, q, _, h, _ => by simp at h
  | [_], k, p, q, _, _, h => by simp at h
  | a :: b :: l, 0, p, q, hc, hp, hq => by
    unfold chainedB at hc
    simp only [Bool.and_eq_true, decide_eq_true_eq] at hc
    have e1 : a = p := by simpa using hp
    have e2 : b = q := by simpa using hq
    rw [← e1, ← e2]
    exact ⟨hc.1, hc.2.1⟩
  | a :: b :: l, k + 1, p, q, hc, hp, hq => by
    unfold chainedB at hc
    simp only [Bool.and_eq_true] at hc
    exact chained_spec (ws := b :: l) (k := k) hc.2.2 (by simpa using hp) (by simpa using hq)
theorem chained_lt {ws : List Nat} (hc : chainedB ops ws = true) : ∀ (d k : Nat) {p q : Nat}, ws[k]? = some p → ws[k + d + 1]? = some q → p < q
  | 0, k, p, q, hp, hq => (chained_spec hc hp (by simpa using hq)).2
  | d + 1, k, p, q, hp, hq => by
    have hl := (List.getElem?_eq_some_iff.1 hq).1
    obtain ⟨r, hr⟩ : ∃ r, ws[k + d + 1]? = some r := ⟨_, List.getElem?_eq_getElem (by omega)⟩
    have h1 := chained_lt hc d k hp hr
    have h2 := (chained_spec hc hr (by rw [show k + d + 1 + 1 = k + (d + 1) + 1 by omega]; exact hq)).2
    omega
theorem chained_inj {ws : List Nat} (hc : chainedB ops ws = true) {j k p : Nat} (hj : ws[j]? = some p) (hk : ws[k]? = some p) : j = k := by
  rcases Nat.lt_trichotomy j k with h | h | h
  · have := chained_lt hc (k - j - 1) j hj (q := p) (by rw [show j + (k - j - 1) + 1 = k by omega]; exact hk); omega
  · exact h
  · have := chained_lt hc (j - k - 1) k hk (q := p) (by rw [show k + (j - k - 1) + 1 = j by omega]; exact hj); omega

/-- What holds at any point: c writers have been carried out. -/
structure MidC (Inv : Nat → World → Prop) (ws : List Nat) (ops : Array Oper) (vs : Nat → Value) (a0 : Act) (listed : Array Bool) (a : Act) (W : World) (c : Nat) : Prop where
  inv : Inv c W
  le : c ≤ ws.length
  upto : ∀ (k p : Nat), ws[k]? = some p → (listed.getD p false = true ↔ k < c)
  size : a.tmps.size = a0.tmps.size
  defers : a.defers = a0.defers
  slots : ∀ t : Nat, a.tmps[t]? = slotOf ops (fun j => listed.getD j false) vs a0 ops.size t

/-- How many writers have been carried out at least, and at most, when operation i is. -/
def loC (ops : Array Oper) (i : Nat) : List Nat → Nat → Nat
  | [], _ => 0
  | p :: l, k => if Region.waitsFor .any ops i p then max (k + 1) (loC ops i l (k + 1)) else loC ops i l (k + 1)
def hiC (ops : Array Oper) (i : Nat) : List Nat → Nat → Nat
  | [], k => k
  | p :: l, k => if Region.waitsFor .any ops p i then k else hiC ops i l (k + 1)
theorem loC_of {i : Nat} {c : Nat} : ∀ (l : List Nat) (k : Nat), (∀ (j p : Nat), l[j]? = some p → Region.waitsFor .any ops i p = true → k + j < c) → loC ops i l k ≤ c
  | [], _, _ => Nat.zero_le _
  | p :: l, k, h => by
    have ih := loC_of (c := c) l (k + 1) fun j q hq hw => by have := h (j + 1) q (by simpa using hq) hw; omega
    unfold loC
    split
    · rename_i hw; have := h 0 p rfl hw; omega
    · exact ih
theorem hiC_of {i : Nat} {c : Nat} : ∀ (l : List Nat) (k : Nat), c ≤ k + l.length → (∀ (j p : Nat), l[j]? = some p → Region.waitsFor .any ops p i = true → c ≤ k + j) → c ≤ hiC ops i l k
  | [], k, hl, _ => by simpa [hiC] using hl
  | p :: l, k, hl, h => by
    unfold hiC
    split
    · rename_i hw; have := h 0 p rfl hw; omega
    · exact hiC_of l (k + 1) (by simp at hl; omega) fun j q hq hw => by have := h (j + 1) q (by simpa using hq) hw; omega

/-- What is asked of operation i. -/
def stepForC (P : Program) (Inv : Nat → World → Prop) (ws : List Nat) (ops : Array Oper) (vs : Nat → Value) (a0 : Act) (i : Nat) : Prop :=
  match ops[i]? with
  | none => True
  | some o =>
    (∀ k, ws[k]? = some i → Region.wanted o (yielded ops (lay ops vs a0 i).tmps) = true ∧ ∀ W, Inv k W → GivesC P o (lay ops vs a0 i) W (vs i) (Inv (k + 1))) ∧
    (i ∉ ws → ∀ c W, loC ops i ws 0 ≤ c → c ≤ hiC ops i ws 0 → Inv c W → if Region.wanted o (yielded ops (lay ops vs a0 i).tmps) then Gives P o (lay ops vs a0 i) W (fun u _ => u = vs i) else undef = vs i)

theorem mid_stepC (hst : ∀ c W W', Inv c W → Below W.heap.size W W' → Inv c W') (hch : chainedB ops ws = true) (hwn : ∀ p ∈ ws, p < ops.size) {vs : Nat → Value} {a0 : Act} {listed : Array Bool} {a : Act} {W : World} {c : Nat} {Q : Exit → Act → World → Prop}
    (hB : tidyB ops ops.size = true) (hsel : Region.noSelect ops = true)
    (hop : ∀ i, i < ops.size → stepForC P Inv ws ops vs a0 i) (inv : HeadInv .any ops ops.size listed) (mid : MidC Inv ws ops vs a0 listed a W c)
    {i : Nat} (hr : i ∈ Region.ready .any ops listed) {K : Act → World → Prop}
    (hk : ∀ a W c, HeadInv .any ops ops.size (listed.setIfInBounds i true) → MidC Inv ws ops vs a0 (listed.setIfInBounds i true) a W c → K a W) : wpOp P ops Q i K a W := by
  obtain ⟨hun, oi, hoi, hall⟩ := mem_ready.1 hr
  have hin : i < ops.size := (Array.getElem?_eq_some_iff.1 hoi).1
  have hunf : listed.getD i false = false := getD_both hun
  have hisz : i < listed.size := by rw [inv.size]; exact hin
  have later : ∀ j oj d, j < ops.size → ops[j]? = some oj → oj.dst = some d → listed.getD j false = true → (d ∈ oi.looksAt ops ∨ oi.dst = some d) → j < i := by
    intro j oj d hj hoj hd hl hlook
    have hji : i ≠ j := fun e => by subst e; rw [hunf] at hl; cases hl
    obtain ⟨_, h1, _⟩ := tidy_spec hB hin hj hoi hoj hd (hlook.imp id fun h => ⟨h, hji⟩)
    rcases Nat.lt_trichotomy i j with h | h | h
    · obtain ⟨oj', hoj', e, he, hb, hon⟩ := Region.waitsFor_spec (h1 h)
      have := inv.closed j oj' hoj' hl e he hb
      rw [hon, hunf] at this
      cases this
    · exact absurd h hji
    · exact h
  have early : ∀ j oj d, j < i → ops[j]? = some oj → oj.dst = some d → (d ∈ oi.looksAt ops) → listed.getD j false = true := by
    intro j oj d hj hoj hd hlook
    obtain ⟨_, _, h2⟩ := tidy_spec hB hin (by omega) hoi hoj hd (.inl hlook)
    obtain ⟨oi', hoi', e, he, hb, hon⟩ := Region.waitsFor_spec (h2 hj)
    have : oi' = oi := Option.some.inj (hoi'.symm.trans hoi)
    subst this
    have := hall e he hb
    rwa [hon] at this
  have looks : ∀ t ∈ oi.looksAt ops, (lay ops vs a0 i).tmps[t]? = a.tmps[t]? := by
    intro t ht
    rw [lay_get, mid.slots t]
    unfold slotOf
    rw [lastW_eq (ops := ops) (t := t) (p := fun _ => true) (q := fun j => listed.getD j false) (m := i) (n := ops.size) ?_]
    intro j
    constructor
    · rintro ⟨h1, _, h3⟩
      obtain ⟨oj, hoj, hd⟩ := Option.bind_eq_some_iff.1 h3
      exact ⟨by omega, early j oj t h1 hoj hd ht, h3⟩
    · rintro ⟨h1, h2, h3⟩
      obtain ⟨oj, hoj, hd⟩ := Option.bind_eq_some_iff.1 h3
      exact ⟨later j oj t h1 hoj hd h2 (.inl ht), rfl, h3⟩
  have waits : ∀ p, Region.waitsFor .any ops i p = true → listed.getD p false = true := fun p hp => by
    obtain ⟨oi', hoi', e, he, hb, hon⟩ := Region.waitsFor_spec hp
    have : oi' = oi := Option.some.inj (hoi'.symm.trans hoi)
    subst this
    have := hall e he hb
    rwa [hon] at this
  have waited : ∀ p, Region.waitsFor .any ops p i = true → listed.getD p false = false := fun p hp => by
    obtain ⟨op', hop', e, he, hb, hon⟩ := Region.waitsFor_spec hp
    cases hl : listed.getD p false with
    | false => rfl
    | true =>
      have := inv.closed p op' hop' hl e he hb
      rw [hon, hunf] at this; cases this
  have put : ∀ W' c', Inv c' W' → c' ≤ ws.length → (∀ (k p : Nat), ws[k]? = some p → ((listed.setIfInBounds i true).getD p false = true ↔ k < c')) → K (a.put oi.dst (vs i)) W' := by
    intro W' c' hi' hle' hup'
    refine hk _ W' c' (inv.set hr hin) ⟨hi', hle', hup', by rw [put_size, mid.size], by rw [put_defers, mid.defers], fun t => ?_⟩
    rw [put_get, mid.size]
    unfold slotOf
    by_cases hd : oi.dst = some t
    · simp only [hd, if_true]
      have : lastW ops (fun j => (listed.setIfInBounds i true).getD j false) t ops.size = some i := by
        cases hc : lastW ops (fun j => (listed.setIfInBounds i true).getD j false) t ops.size with
        | none => exact absurd ⟨by simp [hisz], by simp [hoi, hd]⟩ (lastW_none hc i hin)
        | some j =>
          obtain ⟨c1, c2, c3, c4⟩ := lastW_some hc
          obtain ⟨oj, hoj, hdj⟩ := Option.bind_eq_some_iff.1 c3
          by_cases e : j = i
          · rw [e]
          · have hlj : listed.getD j false = true := by rwa [getD_set_ne false (Ne.symm e)] at c2
            have := later j oj t c1 hoj hdj hlj (.inr hd)
            exact absurd ⟨by simp [hisz], by simp [hoi, hd]⟩ (c4 i this hin)
      rw [this]
    · simp only [hd, if_false]
      rw [mid.slots t]
      unfold slotOf
      have : lastW ops (fun j => (listed.setIfInBounds i true).getD j false) t ops.size = lastW ops (fun j => listed.getD j false) t ops.size := by
        refine lastW_eq fun j => ?_
        by_cases e : j = i
        · subst e; simp [hoi, hd]
        · rw [getD_set_ne false (Ne.symm e)]
      rw [this]
  have hs := hop i hin
  unfold stepForC at hs
  simp only [hoi] at hs
  have same : execOp a.eval oi = execOp (lay ops vs a0 i).eval oi := exec_congr (fun cs b => Region.noSelect_spec hsel i oi cs b hoi) (fun t ht => (looks t ht).symm)
  unfold wpOp
  simp only [hoi]
  by_cases hw : i ∈ ws
  · obtain ⟨k, hkl, hke⟩ := List.mem_iff_getElem.1 hw
    have hki : ws[k]? = some i := by rw [List.getElem?_eq_getElem hkl, hke]
    obtain ⟨h1, h2⟩ := hs.1 k hki
    have hck : c = k := by
      have a1 : ¬ k < c := fun h => by have := (mid.upto k i hki).2 h; rw [hunf] at this; cases this
      have a2 : k ≤ c := by
        cases k with
        | zero => omega
        | succ k =>
          obtain ⟨p, hp⟩ : ∃ p, ws[k]? = some p := ⟨_, List.getElem?_eq_getElem (by omega)⟩
          have := (mid.upto k p hp).1 (waits p (chained_spec hch hp hki).1)
          omega
      omega
    subst hck
    rw [wanted_congr looks] at h1
    rw [if_pos h1]
    refine .inl (wp_of_givesC ((h2 W mid.inv).of_eval same) fun W' hW' => put W' (c + 1) hW' (by omega) fun j p hp => ?_)
    by_cases e : p = i
    · subst e
      have := chained_inj hch hp hki
      subst this
      simp [hisz]
    · rw [getD_set_ne false (Ne.symm e), mid.upto j p hp]
      have : j ≠ c := fun h => by subst h; rw [hki] at hp; cases hp; exact e rfl
      omega
  · have h2 := hs.2 hw c W (loC_of ws 0 fun j p hp hwt => by have := (mid.upto j p hp).1 (waits p hwt); omega)
      (hiC_of ws 0 (by have := mid.le; omega) fun j p hp hwt => by
        have := waited p hwt
        have h3 : ¬ j < c := fun h => by have := (mid.upto j p hp).2 h; simp_all
        omega) mid.inv
    rw [wanted_congr looks] at h2
    have hup : ∀ (k p : Nat), ws[k]? = some p → ((listed.setIfInBounds i true).getD p false = true ↔ k < c) := fun k p hp => by
      have e : p ≠ i := fun h => hw (by rw [← h]; exact List.mem_of_getElem? hp)
      rw [getD_set_ne false (Ne.symm e)]; exact mid.upto k p hp
    split
    · rename_i hwt
      rw [if_pos hwt] at h2
      refine .inl (wp_of_gives (h2.of_eval same) fun v W' hb hv => ?_)
      subst hv
      exact put W' c (hst c W W' mid.inv hb) mid.le hup
    · rename_i hwt
      rw [if_neg hwt] at h2
      rw [h2]
      exact put W c mid.inv mid.le hup

theorem wpAny_of_midC (hst : ∀ c W W', Inv c W → Below W.heap.size W W' → Inv c W') (hch : chainedB ops ws = true) (hwn : ∀ p ∈ ws, p < ops.size) {vs : Nat → Value} {a0 : Act} {Q : Exit → Act → World → Prop}
    (hB : tidyB ops ops.size = true) (hsel : Region.noSelect ops = true) (hback : backB ops ops.size = true)
    (hop : ∀ i, i < ops.size → stepForC P Inv ws ops vs a0 i)
    (hend : ∀ W, Inv ws.length W → Q .normal (lay ops vs a0 ops.size) W) :
    ∀ (f : Nat) (listed : Array Bool) (a : Act) (W : World) (c : Nat), HeadInv .any ops ops.size listed → MidC Inv ws ops vs a0 listed a W c → cnt listed ops.size = f →
      wpAny P .any ops Q f listed a W := by
  intro f
  induction f with
  | zero =>
    intro listed a W c inv mid hc
    have hall := cnt_zero listed ops.size hc
    have ha : a = lay ops vs a0 ops.size := act_ext (fun t => by
      rw [lay_get, mid.slots t]
      unfold slotOf
      rw [lastW_eq (ops := ops) (t := t) (p := fun j => listed.getD j false) (q := fun _ => true) (m := ops.size) (n := ops.size) ?_]
      intro j
      constructor
      · rintro ⟨h1, _, h3⟩; exact ⟨h1, rfl, h3⟩
      · rintro ⟨h1, _, h3⟩; exact ⟨h1, hall j h1, h3⟩) (by rw [mid.defers, lay_defers])
    have hcl : c = ws.length := by
      have := mid.le
      by_cases h : c < ws.length
      · obtain ⟨p, hp⟩ : ∃ p, ws[c]? = some p := ⟨_, List.getElem?_eq_getElem h⟩
        have := (mid.upto c p hp).1 (hall p (hwn p (List.mem_of_getElem? hp)))
        omega
      · omega
    subst hcl
    rw [ha]
    refine ⟨?_, hend W mid.inv⟩
    cases hr : Region.ready .any ops listed with
    | nil => rfl
    | cons i r =>
      obtain ⟨hun, o, ho, _⟩ := mem_ready.1 (by rw [hr]; exact List.mem_cons_self : i ∈ Region.ready .any ops listed)
      have := hall i (Array.getElem?_eq_some_iff.1 ho).1
      rw [getD_both hun] at this
      cases this
  | succ f ih =>
    intro listed a W c inv mid hc
    obtain ⟨i0, hi0, hu0, hlow⟩ := least_unlisted listed ops.size (by omega)
    refine ⟨fun h => ?_, fun i hi => ?_⟩
    · exfalso
      have h1 := List.all_eq_true.1 hback i0 (List.mem_range.2 hi0)
      cases ho : ops[i0]? with
      | none => simp [ho] at h1
      | some o =>
        simp only [ho] at h1
        have : i0 ∈ Region.ready .any ops listed := by
          refine mem_ready.2 ⟨getD_in (by rw [inv.size]; omega) hu0, o, ho, fun e he hb => ?_⟩
          have h2 := Array.all_eq_true'.1 h1 e he
          simp only [hb, Bool.not_true, Bool.false_or, decide_eq_true_eq] at h2
          exact hlow e.on h2
        rw [h] at this
        cases this
    · have hun := (mem_ready.1 hi).1
      have hin : i < ops.size := by obtain ⟨_, o, ho, _⟩ := mem_ready.1 hi; exact (Array.getElem?_eq_some_iff.1 ho).1
      refine mid_stepC hst hch hwn hB hsel hop inv mid hi fun a' W' c' inv' mid' => ih _ a' W' c' inv' mid' ?_
      have := cnt_set listed i (by rw [inv.size]; omega) (getD_both hun) ops.size hin
      omega

/-- All that is asked of the region itself. -/
def chainRegB (ops : Array Oper) (ws : List Nat) (n : Nat) : Bool :=
  Region.noSelect ops && (tidyB ops ops.size && (backB ops ops.size && (chainedB ops ws && (ws.all (fun p => decide (p < ops.size)) && decide (n = ops.size)))))

/-- The walk in the order of the text: k is the next operation's number, c how many writers came ahead of it. -/
def wpChain (P : Program) (Inv : Nat → World → Prop) (ws : List Nat) (ops : Array Oper) (Q : Exit → Act → World → Prop) : Nat → Nat → List Oper → List Value → Act → Prop
  | k, c, o :: os, v :: vs, a =>
    (if ws[c]? = some k then (Region.wanted o (yielded ops a.tmps) = true ∧ ∀ W, Inv c W → GivesC P o a W v (Inv (c + 1))) ∧ wpChain P Inv ws ops Q (k + 1) (c + 1) os vs (a.put o.dst v)
     else (k ∉ ws ∧ ∀ c W, loC ops k ws 0 ≤ c → c ≤ hiC ops k ws 0 → Inv c W → if Region.wanted o (yielded ops a.tmps) then Gives P o a W (fun u _ => u = v) else undef = v) ∧ wpChain P Inv ws ops Q (k + 1) c os vs (a.put o.dst v))
  | _, _, _, _, a => ∀ W, Inv ws.length W → Q .normal a W

theorem chain_spec {Q : Exit → Act → World → Prop} {a0 : Act} (hch : chainedB ops ws = true) {vf : Nat → Value} : ∀ (l : List Oper) (vs : List Value) (k c : Nat), (∀ j : Nat, l[j]? = ops[k + j]?) → (∀ j v, vs[j]? = some v → vf (k + j) = v) → vs.length = l.length →
    (∀ j, j < c → ∃ p, ws[j]? = some p ∧ p < k) → wpChain P Inv ws ops Q k c l vs (lay ops vf a0 k) →
    (∀ i, k ≤ i → i < k + l.length → stepForC P Inv ws ops vf a0 i) ∧ (∀ W, Inv ws.length W → Q .normal (lay ops vf a0 (k + l.length)) W)
  | [], [], k, c, _, _, _, _, h => ⟨fun i h1 h2 => by simp at h2; omega, by simpa [wpChain] using h⟩
  | [], _ :: _, _, _, _, _, hl, _, _ => by simp at hl
  | _ :: _, [], _, _, _, _, hl, _, _ => by simp at hl
  | o :: l, v :: vs, k, c, hl, hv, hlen, hlow, h => by
    have h0 : ops[k]? = some o := by simpa using (hl 0).symm
    have hv0 : vf k = v := by simpa using hv 0 v rfl
    have hb : (ops[k]?).bind (·.dst) = o.dst := by rw [h0]; rfl
    have hlay : (lay ops vf a0 k).put o.dst v = lay ops vf a0 (k + 1) := by rw [lay, hb, hv0]
    have rest := fun c' (hlow' : ∀ j, j < c' → ∃ p, ws[j]? = some p ∧ p < k + 1) (h' : wpChain P Inv ws ops Q (k + 1) c' l vs (lay ops vf a0 (k + 1))) => chain_spec hch l vs (k + 1) c' (fun j => by have := hl (j + 1); simpa [Nat.add_assoc, Nat.add_comm 1 j] using this)
      (fun j q hj => by have := hv (j + 1) q (by simpa using hj); simpa [Nat.add_assoc, Nat.add_comm 1 j] using this) (by simpa using hlen) hlow' h'
    have fin : ∀ (hd : stepForC P Inv ws ops vf a0 k) (r : (∀ i, k + 1 ≤ i → i < k + 1 + l.length → stepForC P Inv ws ops vf a0 i) ∧ (∀ W, Inv ws.length W → Q .normal (lay ops vf a0 (k + 1 + l.length)) W)),
        (∀ i, k ≤ i → i < k + (o :: l).length → stepForC P Inv ws ops vf a0 i) ∧ (∀ W, Inv ws.length W → Q .normal (lay ops vf a0 (k + (o :: l).length)) W) := fun hd r => by
      refine ⟨fun i h1 h2 => ?_, ?_⟩
      · by_cases e : i = k
        · subst e; exact hd
        · exact r.1 i (by omega) (by simp at h2; omega)
      · rw [show k + (o :: l).length = k + 1 + l.length by simp; omega]; exact r.2
    unfold wpChain at h
    split at h
    · rename_i hw
      obtain ⟨⟨h1, h2⟩, h3⟩ := h
      rw [hlay] at h3
      refine fin ?_ (rest (c + 1) (fun j hj => ?_) h3)
      · unfold stepForC
        rw [h0]
        refine ⟨fun j hj => ?_, fun hn => absurd (List.mem_of_getElem? hw) hn⟩
        have := chained_inj hch hj hw
        subst this
        rw [hv0]
        exact ⟨h1, h2⟩
      · by_cases e : j = c
        · subst e; exact ⟨k, hw, by omega⟩
        · obtain ⟨p, hp, hpk⟩ := hlow j (by omega); exact ⟨p, hp, by omega⟩
    · rename_i hw
      obtain ⟨⟨h1, h2⟩, h3⟩ := h
      rw [hlay] at h3
      refine fin ?_ (rest c (fun j hj => by obtain ⟨p, hp, hpk⟩ := hlow j hj; exact ⟨p, hp, by omega⟩) h3)
      unfold stepForC
      rw [h0]
      refine ⟨fun j hj => absurd (List.mem_of_getElem? hj) h1, fun _ => ?_⟩
      rw [hv0]
      exact h2

/-- **A region that draws its order**, walked in the order of the text; ws are the operations that write, one behind the other; Inv c holds once c of them have been carried out. -/
theorem wp_region_chain {id : Nat} {l : List Oper} {Q : Exit → Act → World → Prop} {a : Act} {w : World} (Inv : Nat → World → Prop) (ws : List Nat) (vs : List Value) (hm : P.follows .mixedOrders = true) (hB : chainRegB l.toArray ws vs.length = true)
    (hst : ∀ c W W', Inv c W → Below W.heap.size W W' → Inv c W') (h0 : Inv 0 w)
    (h : wpChain P Inv ws l.toArray Q 0 0 l vs a) : (Code.region id l.toArray true).wp P Q a w := by
  simp only [chainRegB, Bool.and_eq_true, decide_eq_true_eq, List.all_eq_true] at hB
  obtain ⟨hsel, htidy, hback, hch, hwn, hn⟩ := hB
  have hc : ∀ m, cnt (Array.replicate l.toArray.size false) m = m := fun m => by
    induction m with
    | zero => rfl
    | succ m ih => rw [cnt, ih, getD_replicate_false]; rfl
  have spec := chain_spec (P := P) (ops := l.toArray) (a0 := a) (Q := Q) hch (vf := fun i => (vs[i]?).getD undef) l vs 0 0 (fun j => by simp) (fun j v hj => by simp [hj]) (by simpa using hn) (fun j hj => by omega) h
  refine wp_region_any hm ?_
  have := wpAny_of_midC (P := P) (ops := l.toArray) (Q := Q) hst hch hwn htidy hsel hback (fun i hi => spec.1 i (Nat.zero_le _) (by simpa using hi)) (by have := spec.2; simpa using this) l.toArray.size (Array.replicate l.toArray.size false) a { w with drawn := w.drawn + 1 } 0
    ⟨by simp, fun j oj _ hl => (by rw [getD_replicate_false] at hl; cases hl), fun t _ ht => getD_in (by simpa using ht) (getD_replicate_false _ _)⟩
    ⟨hst 0 w _ h0 (Below.refl _ _).drew, Nat.zero_le _, fun k p _ => by rw [getD_replicate_false]; simp, rfl, rfl, fun t => ?_⟩ (hc _)
  · exact this
  · unfold slotOf
    rw [show lastW l.toArray (fun j => (Array.replicate l.toArray.size false).getD j false) t l.toArray.size = none from ?_]
    cases h : lastW l.toArray (fun j => (Array.replicate l.toArray.size false).getD j false) t l.toArray.size with
    | none => rfl
    | some j => have := (lastW_some h).2.1; rw [getD_replicate_false] at this; cases this

section
variable {Q : Exit → Act → World → Prop} {o : Oper} {os : List Oper} {vs : List Value} {a : Act} {v : Value} {k c : Nat}
/-- An operation that writes nothing. -/
theorem wpChain_det (hk : ws[c]? ≠ some k) (hn : k ∉ ws) (hw : Region.wanted o (yielded ops a.tmps) = true) (h : ∀ c W, loC ops k ws 0 ≤ c → c ≤ hiC ops k ws 0 → Inv c W → Gives P o a W (fun u _ => u = v))
    (hr : wpChain P Inv ws ops Q (k + 1) c os vs (a.put o.dst v)) : wpChain P Inv ws ops Q k c (o :: os) (v :: vs) a := by
  unfold wpChain
  rw [if_neg hk]
  exact ⟨⟨hn, fun c W h1 h2 h3 => by rw [if_pos hw]; exact h c W h1 h2 h3⟩, hr⟩
theorem wpChain_skip (hk : ws[c]? ≠ some k) (hn : k ∉ ws) (hw : Region.wanted o (yielded ops a.tmps) = false)
    (hr : wpChain P Inv ws ops Q (k + 1) c os vs (a.put o.dst undef)) : wpChain P Inv ws ops Q k c (o :: os) (undef :: vs) a := by
  unfold wpChain
  rw [if_neg hk]
  exact ⟨⟨hn, fun c W h1 h2 h3 => by rw [if_neg (by rw [hw]; exact Bool.false_ne_true)]⟩, hr⟩
/-- The next operation that writes. -/
theorem wpChain_writes (hk : ws[c]? = some k) (hw : Region.wanted o (yielded ops a.tmps) = true) (h : ∀ W, Inv c W → GivesC P o a W v (Inv (c + 1)))
    (hr : wpChain P Inv ws ops Q (k + 1) (c + 1) os vs (a.put o.dst v)) : wpChain P Inv ws ops Q k c (o :: os) (v :: vs) a := by
  unfold wpChain
  rw [if_pos hk]
  exact ⟨⟨hw, h⟩, hr⟩
theorem wpChain_end (h : ∀ W, Inv ws.length W → Q .normal a W) : wpChain P Inv ws ops Q k c [] [] a := by
  unfold wpChain; exact h
end
end
end Go.Dav

namespace Go.Dav
set_option linter.unusedVariables false
set_option linter.unusedSimpArgs false
open Go Go.RowKit
def numOf (l : List UInt8) : Nat := l.foldl (fun x c => x * 256 + c.toNat) 0
theorem numOf_snoc (l : List UInt8) (c : UInt8) : numOf (l ++ [c]) = numOf l * 256 + c.toNat := by simp [numOf]
theorem numFrom_lt : ∀ (l : List UInt8) (x : Nat), l.foldl (fun x c => x * 256 + c.toNat) x < (x + 1) * 256 ^ l.length
  | [], x => by simp
  | c :: l, x => by
    have h := numFrom_lt l (x * 256 + c.toNat)
    have hc := c.toNat_lt
    rw [List.foldl_cons, List.length_cons, Nat.pow_succ]
    refine Nat.lt_of_lt_of_le h ?_
    rw [Nat.mul_comm (256 ^ l.length) 256, ← Nat.mul_assoc]
    exact Nat.mul_le_mul_right _ (by omega)
theorem numOf_lt (l : List UInt8) : numOf l < 256 ^ l.length := by
  have := numFrom_lt l 0
  simpa [numOf] using this
theorem bits_join8 {x c : Nat} (hx : x < 72057594037927936) (hc : c < 256) : bits .or .u64 ((x : Int) * 256) (c : Int) = ((x * 256 + c : Nat) : Int) := by
  rw [bits_join .u64 64 (by decide) (fun n h0 h1 => by rw [IntKind.wrap_u64]; omega) 8 ((x : Int) * 256) (c : Int) (by omega) (by omega) (by omega) (by omega) (by omega) (by omega)]
  omega
end Go.Dav

namespace Go.Dav
set_option linter.unusedVariables false
set_option linter.unusedSimpArgs false
open Go Go.RowKit
/-- Only the blocks that p names are written; new ones may have come. -/
structure OnlyS (p : Nat → Prop) (w w' : World) : Prop where
  os : w'.os = w.os
  tape : w'.tape = w.tape
  output : w'.output = w.output
  size : w.heap.size ≤ w'.heap.size
  block : ∀ k, k < w.heap.size → ¬ p k → w'.heap[k]? = w.heap[k]?
theorem OnlyS.refl (p : Nat → Prop) (w : World) : OnlyS p w w := ⟨rfl, rfl, rfl, Nat.le_refl _, fun _ _ _ => rfl⟩
theorem OnlyS.set {p : Nat → Prop} {w w' : World} (h : OnlyS p w w') (q i : Nat) (v : Value) (hq : p q) : OnlyS p w (w'.setCell ⟨q, i, none⟩ v) :=
  ⟨h.os, h.tape, h.output, by simpa using h.size, fun k hk hne => (Below.heap_setCell w' ⟨q, i, none⟩ v k (fun e => hne (by cases e; exact hq))).trans (h.block k hk hne)⟩
theorem OnlyS.ext {p : Nat → Prop} {w w' w'' : World} (h : OnlyS p w w') (hb : Below w'.heap.size w' w'') : OnlyS p w w'' :=
  ⟨hb.os.trans h.os, hb.tape.trans h.tape, hb.output.trans h.output, Nat.le_trans h.size hb.size, fun k hk hne => (hb.block k (Nat.lt_of_lt_of_le hk h.size)).trans (h.block k hk hne)⟩
theorem OnlyS.of_below {p : Nat → Prop} {w w' : World} (h : Below w.heap.size w w') : OnlyS p w w' := (OnlyS.refl p w).ext h
theorem OnlyS.below {p : Nat → Prop} {w w' : World} {n : Nat} (h : OnlyS p w w') (hn : n ≤ w.heap.size) (hp : ∀ k, p k → n ≤ k) : Below n w w' :=
  ⟨h.os, h.tape, h.output, h.size, fun k hk => h.block k (by omega) fun hpk => by have := hp k hpk; omega⟩
theorem Blk.onlyS {p : Nat → Prop} {W W' : World} {q : Nat} {cs : List Value} {t : TypeId} (h : Blk W q cs t) (k : OnlyS p W W') (hne : ¬ p q) : Blk W' q cs t := (k.block q h.lt hne).trans h
end Go.Dav

namespace Go.Dav
set_option linter.unusedVariables false
set_option linter.unusedSimpArgs false
open Go Go.RowKit
/-- What is left: where it lies, and whether all went well. -/
structure TkSt where
  a : Option Addr
  n : Nat
  c : Nat
  l : List UInt8
  ok : Bool
def advA (a : Option Addr) (c k : Nat) : Option Addr := if c = k then a else a.map fun x => ⟨x.block, x.off + k, none⟩
def TkSt.can (s : TkSt) (k : Nat) : Bool := s.ok && decide (k ≤ s.n)
def TkSt.next (s : TkSt) (k : Nat) : TkSt := if s.can k then ⟨advA s.a s.c k, s.n - k, s.c - k, s.l.drop k, true⟩ else ⟨s.a, s.n, s.c, s.l, false⟩
def TkSt.outA (s : TkSt) (k : Nat) : Option Addr := if s.can k then s.a else none
def TkSt.outN (s : TkSt) (k : Nat) : Nat := if s.can k then k else 0
def TkSt.bytes (s : TkSt) (k : Nat) : List UInt8 := if s.can k then s.l.take k else []
def plainA (a : Option Addr) : Prop := a = none ∨ ∃ b o, a = some ⟨b, o, none⟩
theorem plainA.adv {a : Option Addr} (h : plainA a) (c k : Nat) : plainA (advA a c k) := by
  unfold advA
  split
  · exact h
  · rcases h with rfl | ⟨b, o, rfl⟩
    · exact .inl rfl
    · exact .inr ⟨b, o + k, rfl⟩
theorem BytesS.drop {W : World} {S : Nat → Prop} {a : Option Addr} {n c k : Nat} {l : List UInt8} (h : BytesS W S a n c l) (hk : k ≤ n) : BytesS W S (advA a c k) (n - k) (c - k) (l.drop k) := by
  have h1 := h.at_.hcap
  refine ⟨⟨by rw [List.length_drop, h.at_.hlen], by omega, by have := h.at_.hmax; omega, by have := h.at_.hfew; omega, fun j x hx => ?_, fun ha => ?_⟩, fun j x hx => ?_⟩
  · rw [List.getElem?_drop] at hx
    obtain ⟨b, o, e, hb, hc⟩ := h.at_.hat (k + j) x hx
    have hl := (List.getElem?_eq_some_iff.1 hx).1
    have hne : c ≠ k := by have := h.at_.hlen; omega
    refine ⟨b, o + k, by unfold advA; rw [if_neg hne, e]; rfl, hb, by rw [Nat.add_assoc]; exact hc⟩
  · unfold advA at ha
    split at ha
    · have := h.at_.hnil ha; omega
    · cases a with
      | none => have := h.at_.hnil rfl; omega
      | some _ => cases ha
  · rw [List.getElem?_drop] at hx
    obtain ⟨b, o, e, hs⟩ := h.in_ (k + j) x hx
    have hl := (List.getElem?_eq_some_iff.1 hx).1
    have hne : c ≠ k := by have := h.at_.hlen; omega
    exact ⟨b, o + k, by unfold advA; rw [if_neg hne, e]; rfl, hs⟩
theorem BytesS.takes {W : World} {S : Nat → Prop} {a : Option Addr} {n c k : Nat} {l : List UInt8} (h : BytesS W S a n c l) (hk : k ≤ n) : BytesS W S a k k (l.take k) := by
  have h1 := h.at_.hcap
  refine ⟨⟨by rw [List.length_take, h.at_.hlen]; omega, Nat.le_refl _, by have := h.at_.hmax; omega, by have := h.at_.hfew; omega, fun j x hx => ?_, fun ha => ?_⟩, fun j x hx => ?_⟩
  · rw [List.getElem?_take] at hx
    split at hx
    · exact h.at_.hat j x hx
    · cases hx
  · have := h.at_.hnil ha; omega
  · rw [List.getElem?_take] at hx
    split at hx
    · exact h.in_ j x hx
    · cases hx
structure StAt (tb tq : TypeId) (W : World) (S : Nat → Prop) (pR pO : Nat) (s : TkSt) : Prop where
  hR : Blk W pR [.slice s.a s.n s.c] tb
  hO : Blk W pO [.bool s.ok] tq
  hB : BytesS W S s.a s.n s.c s.l
  hf : plainA s.a
def TwoS (p q b : Nat) : Prop := b = p ∨ b = q
theorem BytesS.onlyS {W W' : World} {S p : Nat → Prop} {a : Option Addr} {n c : Nat} {l : List UInt8} (h : BytesS W S a n c l) (ho : OnlyS p W W') (hd : ∀ b, S b → ¬ p b) : BytesS W' S a n c l :=
  h.same ho.size fun b h1 h2 => ho.block b h2 (hd b h1)
theorem OnlyS.trans {p : Nat → Prop} {a b c : World} (h : OnlyS p a b) (k : OnlyS p b c) : OnlyS p a c :=
  ⟨k.os.trans h.os, k.tape.trans h.tape, k.output.trans h.output, Nat.le_trans h.size k.size, fun j hj hn => (k.block j (Nat.lt_of_lt_of_le hj h.size) hn).trans (h.block j hj hn)⟩
theorem StAt.ext {tb tq : TypeId} {W W' : World} {S : Nat → Prop} {pR pO : Nat} {s : TkSt} (h : StAt tb tq W S pR pO s) (hb : Below W.heap.size W W') : StAt tb tq W' S pR pO s := ⟨h.hR.ext hb, h.hO.ext hb, h.hB.ext hb, h.hf⟩
theorem TkSt.out_bytes {tb tq : TypeId} {W : World} {S : Nat → Prop} {pR pO : Nat} {s : TkSt} (h : StAt tb tq W S pR pO s) (k : Nat) : BytesS W S (s.outA k) (s.outN k) (s.outN k) (s.bytes k) := by
  unfold TkSt.outA TkSt.outN TkSt.bytes
  cases hc : s.can k with
  | false => exact BytesS.nil_
  | true =>
    unfold TkSt.can at hc
    simp only [Bool.and_eq_true, decide_eq_true_eq] at hc
    simp only [if_true]
    exact h.hB.takes hc.2
theorem take_end {tb tq : TypeId} {W : World} {S : Nat → Prop} {pR pO n c k : Nat} {a : Option Addr} {l : List UInt8} {v : Value} (hR : Blk W pR [.slice a n c] tb) (hO : Blk W pO [.bool true] tq) (hB : BytesS W S a n c l) (hf : plainA a) (hS : ∀ b, S b → ¬ TwoS pR pO b) (hne : pR ≠ pO) (hkn : k ≤ n) (hv : v = .slice (advA a c k) (n - k) (c - k)) :
    StAt tb tq ((W.setCell ⟨pO, 0, none⟩ (.bool true)).setCell ⟨pR, 0, none⟩ v) S pR pO ⟨advA a c k, n - k, c - k, l.drop k, true⟩ ∧ OnlyS (TwoS pR pO) W ((W.setCell ⟨pO, 0, none⟩ (.bool true)).setCell ⟨pR, 0, none⟩ v) := by
  subst hv
  have ho := ((OnlyS.refl (TwoS pR pO) W).set pO 0 (.bool true) (.inr rfl)).set pR 0 (.slice (advA a c k) (n - k) (c - k)) (.inl rfl)
  exact ⟨⟨(hR.other hne 0 _).set 0 _, (hO.set 0 _).other (Ne.symm hne) 0 _, (hB.onlyS ho hS).drop hkn, hf.adv _ _⟩, ho⟩
end Go.Dav
namespace Go.Proofs.Ytfhhcpolicdfpaa
set_option linter.unusedVariables false
set_option linter.unusedSimpArgs false
open Go.RowKit Go.Dav
attribute [local go_sem] Gives GivesC ite_val ite_val_true

set_option maxRecDepth 8000 in
set_option maxHeartbeats 8000000 in
theorem Try_take (pR pO k : Nat) (s : TkSt) (S : Nat → Prop) (w : World) (h : StAt 22 4 w S pR pO s) (hS : ∀ b, S b → ¬ TwoS pR pO b) (hne : pR ≠ pO) (hk : k ≤ 1000) :
    Calls Try.prog 33 #[.int .i64 (k : Int), .pointer (some ⟨pO, 0, none⟩), .pointer (some ⟨pR, 0, none⟩)] w fun e w' => e = .returned (.slice (s.outA k) (s.outN k) (s.outN k)) ∧ StAt 22 4 w' S pR pO (s.next k) ∧ OnlyS (TwoS pR pO) w w' := by
  obtain ⟨hR, hO, hB, hf⟩ := h
  have hk' : (k : Int) ≤ 1000 := by omega
  have q1 := hR.cells
  have q2 := hO.cells
  have q3 := hO.marks
  have q4 := hR.marks
  have l1 := hR.lt
  have l2 := hO.lt
  have hne' : pO ≠ pR := fun e => hne e.symm
  obtain ⟨a, n, c, l, ok⟩ := s
  dsimp only at hR hO hB hf q1 q2
  have HR := Lib.hid hR
  have HO := Lib.hid hO
  have HB := Lib.hid hB
  have HF := Lib.hid hf
  have HS := Lib.hid hS
  have hn := hB.at_.hfew
  have hn' : (n : Int) ≤ 140737488355328 := by omega
  have hnc := hB.at_.hcap
  have hcm := hB.at_.hmax
  clear hR hO hB hS hn
  cases ok with
  | false =>
    have hcan : TkSt.can ⟨a, n, c, l, false⟩ k = false := rfl
    unfold TkSt.outA TkSt.outN TkSt.next
    rw [hcan]
    simp only [Bool.false_eq_true, if_false]
    go_enter Try.func33, Try.ntmps33
    go_wp2
    go_ret
    exact ⟨rfl, ⟨HR.out.other hne _ _, HO.out.set 0 _, (HB.out.onlyS ((OnlyS.refl (TwoS pR pO) w).set pO 0 _ (.inr rfl)) HS.out), HF.out⟩, (OnlyS.refl _ w).set pO 0 _ (.inr rfl)⟩
  | true =>
    by_cases hkn : k ≤ n
    · have hcan : TkSt.can ⟨a, n, c, l, true⟩ k = true := by unfold TkSt.can; simp [hkn]
      unfold TkSt.outA TkSt.outN TkSt.next
      rw [hcan]
      simp only [if_true]
      have hkn' : (k : Int) ≤ (n : Int) := by omega
      have hkc : k ≤ c := by omega
      have hkc' : (k : Int) ≤ (c : Int) := by omega
      have HKN := Lib.hid hkn
      rcases hf with rfl | ⟨b, o, rfl⟩
      · obtain rfl : c = 0 := HB.out.at_.hnil rfl
        obtain rfl : n = 0 := by omega
        obtain rfl : k = 0 := by omega
        go_enter Try.func33, Try.ntmps33
        go_wp2
        go_ret
        exact ⟨rfl, take_end HR.out HO.out HB.out HF.out HS.out hne (by omega) (by unfold advA; simp)⟩
      · by_cases hck : c = k
        · subst hck
          obtain rfl : n = c := by omega
          by_cases hk0 : n = 0
          · subst hk0
            go_enter Try.func33, Try.ntmps33
            go_wp2
            go_ret
            exact ⟨rfl, take_end HR.out HO.out HB.out HF.out HS.out hne (by omega) (by unfold advA; simp [*])⟩
          · have hk0' : ¬ 0 = n := fun e => hk0 e.symm
            go_enter Try.func33, Try.ntmps33
            go_wp2
            go_ret
            exact ⟨rfl, take_end HR.out HO.out HB.out HF.out HS.out hne (by omega) (by unfold advA; simp [*])⟩
        · have hck' : ¬ k = c := fun e => hck e.symm
          by_cases hk0 : k = 0
          · subst hk0
            go_enter Try.func33, Try.ntmps33
            go_wp2
            go_ret
            exact ⟨rfl, take_end HR.out HO.out HB.out HF.out HS.out hne (by omega) (by unfold advA; simp [*])⟩
          · have hk0' : ¬ 0 = k := fun e => hk0 e.symm
            go_enter Try.func33, Try.ntmps33
            go_wp2
            go_ret
            exact ⟨rfl, take_end HR.out HO.out HB.out HF.out HS.out hne (by omega) (by unfold advA; simp [*])⟩
    · have hcan : TkSt.can ⟨a, n, c, l, true⟩ k = false := by unfold TkSt.can; simp; omega
      unfold TkSt.outA TkSt.outN TkSt.next
      rw [hcan]
      simp only [Bool.false_eq_true, if_false]
      have hkn' : ¬ (k : Int) ≤ (n : Int) := by omega
      have hkn2 : decide (k ≤ n) = false := by simp; omega
      have hkn3 : decide ((k : Int) ≤ (n : Int)) = false := by simp; omega
      go_enter Try.func33, Try.ntmps33
      go_wp2
      go_ret
      exact ⟨rfl, ⟨HR.out.other hne _ _, HO.out.set 0 _, (HB.out.onlyS ((OnlyS.refl (TwoS pR pO) w).set pO 0 _ (.inr rfl)) HS.out), HF.out⟩, (OnlyS.refl _ w).set pO 0 _ (.inr rfl)⟩

def TryTakeV (pR pO : Nat) : Value := .func (.func 33) #[] #[.pointer (some ⟨pO, 0, none⟩), .pointer (some ⟨pR, 0, none⟩)]
theorem Try_en_take (args : Array Value) (W : World) : (callFunc 33 args).run Try.prog W = .ok (.enter 33 args) W := by kernel_rfl
theorem outN_le (s : TkSt) (k : Nat) : s.outN k ≤ k := by unfold TkSt.outN; split <;> omega
set_option maxRecDepth 8000 in
set_option maxHeartbeats 8000000 in
theorem Try_num (pT pR pO k : Nat) (s : TkSt) (S : Nat → Prop) (w : World) (h : StAt 22 4 w S pR pO s) (hT : Blk w pT [TryTakeV pR pO] 62) (hS : ∀ b, S b → ¬ TwoS pR pO b) (hne : pR ≠ pO) (hk : k ≤ 8) :
    Calls Try.prog 34 #[.int .i64 (k : Int), .pointer (some ⟨pT, 0, none⟩)] w fun e w' => e = .returned (.int .u64 (numOf (s.bytes k) : Nat)) ∧ StAt 22 4 w' S pR pO (s.next k) ∧ OnlyS (TwoS pR pO) w w' := by
  have hk' : (k : Int) ≤ 8 := by omega
  have q1 := hT.cells
  unfold TryTakeV at q1
  have l1 := hT.lt
  have hen := fun args W => Try_en_take args W
  have hc := Try_take pR pO k s S w h hS hne (by omega)
  have HC := Lib.hid hc
  have HS := Lib.hid hS
  have HOB := Lib.hid (TkSt.out_bytes h k)
  have HON := Lib.hid (outN_le s k)
  clear hc h hT hS
  go_enter Try.func34, Try.ntmps34
  go_wp2_with fail
  (with_reducible refine HC.out.mono ?_); rintro e w1 ⟨rfl, hst, ho⟩
  have HL := Lib.hid (HOB.out.onlyS ho HS.out)
  have HST := Lib.hid hst
  have HO := Lib.hid ho
  obtain ⟨oa, hoa⟩ : ∃ x, s.outA k = x := ⟨_, rfl⟩
  obtain ⟨n, hon⟩ : ∃ x, s.outN k = x := ⟨_, rfl⟩
  obtain ⟨l, hol⟩ : ∃ x, s.bytes k = x := ⟨_, rfl⟩
  rw [hoa, hon, hol] at HL
  rw [hon] at HON
  rw [hoa, hon]
  have HLL := Lib.hid hol
  have hn8 : (n : Int) ≤ 8 := by have := HON.out; omega
  clear hst ho hoa hon hol
  go_wp2_with fail
  go_loopg [3, 10] n (fun g xx ix wr => ∃ j : Nat, j ≤ n ∧ g = n - j ∧ ix = .int .i64 j ∧ xx = .int .u64 (numOf (l.take j) : Int) ∧ w1 = wr)
  case atStart => exact ⟨0, Nat.zero_le _, rfl, rfl, rfl, rfl⟩
  case round =>
    obtain ⟨j, hj, rfl, rfl, rfl, rfl⟩ := hrel
    by_cases hjn : j < n
    · obtain ⟨y, hy⟩ : ∃ y, l[j]? = some y := ⟨_, List.getElem?_eq_getElem (by have := HL.out.at_.hlen; omega)⟩
      obtain ⟨b, o, rfl, hb, hc⟩ := HL.out.at_.hat j y hy
      have hjn' : (j : Int) < (n : Int) := by omega
      have hlt := numOf_lt (l.take j)
      rw [List.length_take, Nat.min_eq_left (by have := HL.out.at_.hlen; omega)] at hlt
      have hp : 256 ^ j ≤ 256 ^ 7 := Nat.pow_le_pow_right (by omega) (by have := HON.out; omega)
      obtain ⟨x, hx⟩ : ∃ x, numOf (l.take j) = x := ⟨_, rfl⟩
      rw [hx] at hlt ⊢
      have hxl : x < 72057594037927936 := Nat.lt_of_lt_of_le hlt hp
      have h1 : (x : Int) * 256 % 18446744073709551616 = (x : Int) * 256 := by omega
      have hyl := y.toNat_lt
      have h2 := bits_join8 hxl hyl
      have h3 : (y.toNat : Int) % 18446744073709551616 = (y.toNat : Int) := by omega
      obtain ⟨z, hz⟩ : ∃ z, x * 256 + y.toNat = z := ⟨_, rfl⟩
      rw [hz] at h2
      have HZ := Lib.hid hz
      have HX := Lib.hid hx
      have HY := Lib.hid hy
      have HJN := Lib.hid hjn
      clear hy hlt hp hxl hyl hz hx hj hjn
      go_wp2_with fail
      go_roundg (n - (j + 1))
      case measure => have := HJN.out; omega
      case rel => exact ⟨j + 1, HJN.out, rfl, by go_num, by rw [List.take_add_one, HY.out, Option.toList_some, numOf_snoc, HX.out, HZ.out], rfl⟩
    · obtain rfl : j = n := by omega
      have hjn' : ¬ (j : Int) < (j : Int) := by omega
      have HE := Lib.hid (show l.take j = l from List.take_of_length_le (by have := HL.out.at_.hlen; omega))
      clear hjn
      go_wp2
      go_ret
      exact ⟨by rw [HE.out, HLL.out]; rfl, HST.out, HO.out⟩
end Go.Proofs.Ytfhhcpolicdfpaa

namespace Go.Dav
set_option linter.unusedVariables false
set_option linter.unusedSimpArgs false
open Go Go.RowKit
theorem OnlyS.setNew {p : Nat → Prop} {w w' : World} (h : OnlyS p w w') (q i : Nat) (v : Value) (hq : w.heap.size ≤ q) : OnlyS p w (w'.setCell ⟨q, i, none⟩ v) :=
  ⟨h.os, h.tape, h.output, by simpa using h.size, fun k hk hne => (Below.heap_setCell w' ⟨q, i, none⟩ v k (fun e => by have e2 : k = q := e; omega)).trans (h.block k hk hne)⟩
theorem numOf_one_le (l : List UInt8) (h : l.length ≤ 1) : numOf l ≤ 255 := by
  have := numOf_lt l
  have h2 : 256 ^ l.length ≤ 256 ^ 1 := Nat.pow_le_pow_right (by omega) h
  omega
theorem bytes_len (s : TkSt) (k : Nat) : (s.bytes k).length ≤ k := by
  unfold TkSt.bytes
  split
  · exact List.length_take_le _ _
  · simp
theorem numOf_8_le (l : List UInt8) (h : l.length ≤ 8) : numOf l < 18446744073709551616 := by
  have := numOf_lt l
  have h2 : 256 ^ l.length ≤ 256 ^ 8 := Nat.pow_le_pow_right (by omega) h
  omega
theorem numOf_4_le (l : List UInt8) (h : l.length ≤ 4) : numOf l < 4294967296 := by
  have := numOf_lt l
  have h2 : 256 ^ l.length ≤ 256 ^ 4 := Nat.pow_le_pow_right (by omega) h
  omega
def TkSt.num (s : TkSt) (k : Nat) : Nat := numOf (s.bytes k)
/-- Bytes behind how many they are. -/
def TkSt.cnt (s : TkSt) : List UInt8 := (s.next 1).bytes (s.num 1)
def TkSt.skip (s : TkSt) : TkSt := (s.next 1).next (s.num 1)
def rdItem (s : TkSt) : ItemD := ⟨s.cnt, s.skip.cnt, decide (s.skip.skip.num 1 = 1), wrap64 ((s.skip.skip.next 1).num 8 : Nat)⟩
def rdItemS (s : TkSt) : TkSt := (s.skip.skip.next 1).next 8
theorem StAt.other {tb tq : TypeId} {W : World} {S : Nat → Prop} {pR pO q i : Nat} {s : TkSt} {v : Value} (h : StAt tb tq W S pR pO s) (h1 : q ≠ pR) (h2 : q ≠ pO) (h3 : ¬ S q) : StAt tb tq (W.setCell ⟨q, i, none⟩ v) S pR pO s :=
  ⟨h.hR.other (Ne.symm h1) i v, h.hO.other (Ne.symm h2) i v, h.hB.onlyS (((OnlyS.refl (fun b => b = q) W).set q i v rfl)) (fun b hb e => h3 (by rw [← e]; exact hb)), h.hf⟩
end Go.Dav
namespace Go.Proofs.Ytfhhcpolicdfpaa
set_option linter.unusedVariables false
set_option linter.unusedSimpArgs false
open Go.RowKit Go.Dav
attribute [local go_sem] Gives GivesC ite_val ite_val_true

def TryNumV (pT : Nat) : Value := .func (.func 34) #[] #[.pointer (some ⟨pT, 0, none⟩)]
theorem Try_en_num (args : Array Value) (W : World) : (callFunc 34 args).run Try.prog W = .ok (.enter 34 args) W := by kernel_rfl
/-- While a part is read: the state, the boxes of the two functions, the part's box. -/
structure TryDecAt (S : Nat → Prop) (pT pN pR pO p : Nat) (t : TypeId) (w : World) (s : TkSt) (cs : List Value) (W : World) : Prop where
  st : StAt 22 4 W S pR pO s
  tk : Blk W pT [TryTakeV pR pO] 62
  nm : Blk W pN [TryNumV pT] 63
  x : Blk W p cs t
  only : OnlyS (TwoS pR pO) w W
theorem TryDecAt.ext {S : Nat → Prop} {pT pN pR pO p : Nat} {t : TypeId} {w : World} {s : TkSt} {cs : List Value} {W W' : World} (h : TryDecAt S pT pN pR pO p t w s cs W) (hb : Below W.heap.size W W') : TryDecAt S pT pN pR pO p t w s cs W' :=
  ⟨h.st.ext hb, h.tk.ext hb, h.nm.ext hb, h.x.ext hb, h.only.ext hb⟩
/-- What is asked of the boxes: they are apart. -/
structure TryApart (S : Nat → Prop) (pT pN pR pO : Nat) : Prop where
  hS : ∀ b, S b → ¬ TwoS pR pO b
  ro : pR ≠ pO
  t : ¬ TwoS pR pO pT
  n : ¬ TwoS pR pO pN
theorem TryDecAt.only_ {S : Nat → Prop} {pT pN pR pO p : Nat} {t : TypeId} {w : World} {s s' : TkSt} {cs : List Value} {W W' : World} (h : TryDecAt S pT pN pR pO p t w s cs W) (ha : TryApart S pT pN pR pO) (hp : ¬ TwoS pR pO p) (ho : OnlyS (TwoS pR pO) W W') (hs : StAt 22 4 W' S pR pO s') : TryDecAt S pT pN pR pO p t w s' cs W' :=
  ⟨hs, h.tk.onlyS ho ha.t, h.nm.onlyS ho ha.n, h.x.onlyS ho hp, h.only.trans ho⟩
theorem TryDecAt.setX {S : Nat → Prop} {pT pN pR pO p i : Nat} {t : TypeId} {w : World} {s : TkSt} {cs : List Value} {W : World} {v : Value} (h : TryDecAt S pT pN pR pO p t w s cs W) (hp : ¬ TwoS pR pO p) (hT : p ≠ pT) (hN : p ≠ pN) (hSp : ¬ S p) (hnew : w.heap.size ≤ p) : TryDecAt S pT pN pR pO p t w s (cs.set i v) (W.setCell ⟨p, i, none⟩ v) :=
  ⟨h.st.other (fun e => hp (.inl e)) (fun e => hp (.inr e)) hSp, h.tk.other (Ne.symm hT) i v, h.nm.other (Ne.symm hN) i v, h.x.set i v, h.only.setNew p i v hnew⟩
theorem Try_num_at {S : Nat → Prop} {pT pN pR pO p : Nat} {t : TypeId} {w : World} {s : TkSt} {cs : List Value} {W : World} (h : TryDecAt S pT pN pR pO p t w s cs W) (ha : TryApart S pT pN pR pO) (hp : ¬ TwoS pR pO p) (k : Nat) (hk : k ≤ 8) :
    Calls Try.prog 34 #[.int .i64 (k : Int), .pointer (some ⟨pT, 0, none⟩)] W fun e w' => e = .returned (.int .u64 (s.num k : Nat)) ∧ TryDecAt S pT pN pR pO p t w (s.next k) cs w' :=
  (Try_num pT pR pO k s S W h.st h.tk ha.hS ha.ro hk).mono fun e w' ⟨h1, h2, h3⟩ => ⟨h1, h.only_ ha hp h3 h2⟩
theorem Try_num_1 {S : Nat → Prop} {pT pN pR pO p : Nat} {t : TypeId} {w : World} {s : TkSt} {cs : List Value} {W : World} (h : TryDecAt S pT pN pR pO p t w s cs W) (ha : TryApart S pT pN pR pO) (hp : ¬ TwoS pR pO p) :
    Calls Try.prog 34 #[.int .i64 1, .pointer (some ⟨pT, 0, none⟩)] W fun e w' => e = .returned (.int .u64 (s.num 1 : Nat)) ∧ TryDecAt S pT pN pR pO p t w (s.next 1) cs w' := Try_num_at h ha hp 1 (by omega)
theorem Try_num_4 {S : Nat → Prop} {pT pN pR pO p : Nat} {t : TypeId} {w : World} {s : TkSt} {cs : List Value} {W : World} (h : TryDecAt S pT pN pR pO p t w s cs W) (ha : TryApart S pT pN pR pO) (hp : ¬ TwoS pR pO p) :
    Calls Try.prog 34 #[.int .i64 4, .pointer (some ⟨pT, 0, none⟩)] W fun e w' => e = .returned (.int .u64 (s.num 4 : Nat)) ∧ TryDecAt S pT pN pR pO p t w (s.next 4) cs w' := Try_num_at h ha hp 4 (by omega)
theorem Try_num_8 {S : Nat → Prop} {pT pN pR pO p : Nat} {t : TypeId} {w : World} {s : TkSt} {cs : List Value} {W : World} (h : TryDecAt S pT pN pR pO p t w s cs W) (ha : TryApart S pT pN pR pO) (hp : ¬ TwoS pR pO p) :
    Calls Try.prog 34 #[.int .i64 8, .pointer (some ⟨pT, 0, none⟩)] W fun e w' => e = .returned (.int .u64 (s.num 8 : Nat)) ∧ TryDecAt S pT pN pR pO p t w (s.next 8) cs w' := Try_num_at h ha hp 8 (by omega)
theorem Try_take_at {S : Nat → Prop} {pT pN pR pO p : Nat} {t : TypeId} {w : World} {s : TkSt} {cs : List Value} {W : World} (h : TryDecAt S pT pN pR pO p t w s cs W) (ha : TryApart S pT pN pR pO) (hp : ¬ TwoS pR pO p) (k : Nat) (hk : k ≤ 1000) :
    Calls Try.prog 33 #[.int .i64 (k : Int), .pointer (some ⟨pO, 0, none⟩), .pointer (some ⟨pR, 0, none⟩)] W fun e w' => e = .returned (.slice (s.outA k) (s.outN k) (s.outN k)) ∧ TryDecAt S pT pN pR pO p t w (s.next k) cs w' :=
  (Try_take pR pO k s S W h.st ha.hS ha.ro hk).mono fun e w' ⟨h1, h2, h3⟩ => ⟨h1, h.only_ ha hp h3 h2⟩

abbrev TryDI (S : Nat → Prop) (pT pN pR pO : Nat) (w : World) (s : TkSt) (cs : List Value) (W : World) : Prop := TryDecAt S pT pN pR pO w.heap.size 56 w s cs W
/-- The bytes that a call has told: where they lie. -/
def cntV (s : TkSt) : Value := .slice ((s.next 1).outA (s.num 1)) ((s.next 1).outN (s.num 1)) ((s.next 1).outN (s.num 1))
def TryRdItem (S : Nat → Prop) (pT pN pR pO : Nat) (w : World) (s : TkSt) (e : Ending) (w' : World) : Prop :=
  e = .returned (.tuple #[.agg #[cntV s, cntV s.skip, .bool (rdItem s).int, .int .i64 (rdItem s).n], .bool (rdItemS s).ok]) ∧ StAt 22 4 w' S pR pO (rdItemS s) ∧ OnlyS (TwoS pR pO) w w'
set_option maxRecDepth 8000 in
set_option maxHeartbeats 8000000 in
theorem Try_rdItem (S : Nat → Prop) (pT pN pR pO : Nat) (s : TkSt) (w : World) (hst : StAt 22 4 w S pR pO s) (hT : Blk w pT [TryTakeV pR pO] 62) (hN : Blk w pN [TryNumV pT] 63) (ha : TryApart S pT pN pR pO) (hS : ∀ b, S b → b < w.heap.size) :
    Calls Try.prog 36 #[.pointer (some ⟨pT, 0, none⟩), .pointer (some ⟨pN, 0, none⟩), .pointer (some ⟨pO, 0, none⟩)] w (TryRdItem S pT pN pR pO w s) := by
  have hb0 : Below w.heap.size w (w.alloc (.cells #[.slice none 0 0, .slice none 0 0, .bool false, .int .i64 0] 56)) := (by repeat (first | (with_reducible exact Below.refl _ _) | (with_reducible exact Below.refl _ _) | (with_reducible refine Below.setCell ?_ (by first | omega | (simp; done) | (simp; omega)) _) | (with_reducible refine Below.alloc ?_ (by first | omega | (simp; done) | (simp; omega)) _) | (with_reducible refine Below.drew ?_) | (with_reducible refine below_drewN ?_ _)))
  have hd0 : TryDecAt S pT pN pR pO w.heap.size 56 w s [.slice none 0 0, .slice none 0 0, .bool false, .int .i64 0] (w.alloc (.cells #[.slice none 0 0, .slice none 0 0, .bool false, .int .i64 0] 56)) :=
    ⟨hst.ext hb0, hT.ext hb0, hN.ext hb0, Blk.new w _ _, OnlyS.of_below hb0⟩
  have lt := hT.lt
  have ln := hN.lt
  have lr := hst.hR.lt
  have lo := hst.hO.lt
  have hp : ¬ TwoS pR pO w.heap.size := by unfold TwoS; omega
  have hpT : w.heap.size ≠ pT := by omega
  have hpN : w.heap.size ≠ pN := by omega
  have hSp : ¬ S w.heap.size := fun h => by have := hS _ h; omega
  have hent := fun args W => Try_en_take args W
  have henn := fun args W => Try_en_num args W
  have HD0 := Lib.hid hd0
  have HA := Lib.hid ha
  have HP := Lib.hid hp
  have HPT := Lib.hid hpT
  have HPN := Lib.hid hpN
  have HSP := Lib.hid hSp
  have LT := Lib.hid (And.intro lt (And.intro ln (And.intro lr lo)))
  have hkl1 : s.num 1 ≤ 255 := numOf_one_le _ (bytes_len s 1)
  have hkl2 : ((s.num 1 : Nat) : Int) ≤ 255 := by omega
  have hvl1 : s.skip.num 1 ≤ 255 := numOf_one_le _ (bytes_len s.skip 1)
  have hvl2 : ((s.skip.num 1 : Nat) : Int) ≤ 255 := by omega
  have hwk : IntKind.i64.wrap ((s.num 1 : Nat) : Int) = ((s.num 1 : Nat) : Int) := by rw [i64_wrap_def]; omega
  have hwv : IntKind.i64.wrap ((s.skip.num 1 : Nat) : Int) = ((s.skip.num 1 : Nat) : Int) := by rw [i64_wrap_def]; omega
  clear hst hT hN ha hS hb0 hd0 hp hpT hpN hSp lt ln lr lo
  go_enter Try.func36, Try.ntmps36
  go_wp2_with fail
  refine' wp_region_chain (fun c => TryDecAt S pT pN pR pO w.heap.size 56 w (if c = 0 then s else if c = 1 then TkSt.next s 1 else TkSt.skip s) (if c = 3 then [cntV s, .slice none 0 0, .bool false, .int .i64 0] else [.slice none 0 0, .slice none 0 0, .bool false, .int .i64 0])) [2, 4, 6] [_, _, _, _, _, _, _] (by kernel_rfl) (by kernel_rfl) (fun c W W' h hb => h.ext hb) (HD0.out) ?main1
  case main1 =>
    refine wpChain_det (by decide) (by decide) (by rfl) (fun cc W hlo hhi hI => ?_) ?_
    · have q1 := hI.tk.cells; have q2 := hI.nm.cells; unfold TryTakeV at q1; unfold TryNumV at q2; go_simp; refine ⟨Below.refl _ _, ?_⟩; rfl
    simp only [Act.put, List.setIfInBounds_toArray, List.set_cons_zero, List.set_cons_succ]
    refine wpChain_det (by decide) (by decide) (by rfl) (fun cc W hlo hhi hI => ?_) ?_
    · have q1 := hI.tk.cells; have q2 := hI.nm.cells; unfold TryTakeV at q1; unfold TryNumV at q2; go_simp; refine ⟨Below.refl _ _, ?_⟩; rfl
    simp only [Act.put, List.setIfInBounds_toArray, List.set_cons_zero, List.set_cons_succ]
    refine wpChain_writes (by decide) (by rfl) (fun W hI => ?_) ?_
    · have hI := (show TryDecAt S pT pN pR pO w.heap.size 56 w s [.slice none 0 0, .slice none 0 0, .bool false, .int .i64 0] W from hI); go_simp; refine (Try_num_1 hI HA.out HP.out).mono ?_; rintro e w' ⟨rfl, h2⟩; refine ⟨?_, h2⟩; rfl
    simp only [Act.put, List.setIfInBounds_toArray, List.set_cons_zero, List.set_cons_succ]
    refine wpChain_det (by decide) (by decide) (by rfl) (fun cc W hlo hhi hI => ?_) ?_
    · go_simp; refine ⟨Below.refl _ _, ?_⟩; rfl
    simp only [Act.put, List.setIfInBounds_toArray, List.set_cons_zero, List.set_cons_succ]
    refine wpChain_writes (by decide) (by rfl) (fun W hI => ?_) ?_
    · have hI := (show TryDecAt S pT pN pR pO w.heap.size 56 w (TkSt.next s 1) [.slice none 0 0, .slice none 0 0, .bool false, .int .i64 0] W from hI); go_simp; refine (Try_take_at hI HA.out HP.out (TkSt.num s 1) (by omega)).mono ?_; rintro e w' ⟨rfl, h2⟩; refine ⟨?_, h2⟩; rfl
    simp only [Act.put, List.setIfInBounds_toArray, List.set_cons_zero, List.set_cons_succ]
    refine wpChain_det (by decide) (by decide) (by rfl) (fun cc W hlo hhi hI => ?_) ?_
    · go_simp; refine ⟨Below.refl _ _, ?_⟩; rfl
    simp only [Act.put, List.setIfInBounds_toArray, List.set_cons_zero, List.set_cons_succ]
    refine wpChain_writes (by decide) (by rfl) (fun W hI => ?_) ?_
    · have hI := (show TryDecAt S pT pN pR pO w.heap.size 56 w (TkSt.skip s) [.slice none 0 0, .slice none 0 0, .bool false, .int .i64 0] W from hI); have q1 := hI.x.cells; have q3 := hI.x.marks; have q2 := hI.x.lt; have h2 := hI.setX (i := 0) (v := cntV s) HP.out HPT.out HPN.out HSP.out (Nat.le_refl _); unfold cntV at h2 q1; go_simp; refine ⟨?_, h2⟩; rfl
    simp only [Act.put, List.setIfInBounds_toArray, List.set_cons_zero, List.set_cons_succ]
    refine wpChain_end fun W1 hI1 => ?_
    have HD1 := Lib.hid (show TryDecAt S pT pN pR pO w.heap.size 56 w s.skip [cntV s, .slice none 0 0, .bool false, .int .i64 0] W1 from hI1)
    clear hI1
    go_wp2_with fail
    refine' wp_region_chain (fun c => TryDecAt S pT pN pR pO w.heap.size 56 w (if c = 0 then s.skip else if c = 1 then TkSt.next s.skip 1 else TkSt.skip s.skip) (if c = 3 then [cntV s, cntV s.skip, .bool false, .int .i64 0] else [cntV s, .slice none 0 0, .bool false, .int .i64 0])) [2, 4, 6] [_, _, _, _, _, _, _] (by kernel_rfl) (by kernel_rfl) (fun c W W' h hb => h.ext hb) (HD1.out) ?main2
    case main2 =>
      refine wpChain_det (by decide) (by decide) (by rfl) (fun cc W hlo hhi hI => ?_) ?_
      · have q1 := hI.tk.cells; have q2 := hI.nm.cells; unfold TryTakeV at q1; unfold TryNumV at q2; go_simp; refine ⟨Below.refl _ _, ?_⟩; rfl
      simp only [Act.put, List.setIfInBounds_toArray, List.set_cons_zero, List.set_cons_succ]
      refine wpChain_det (by decide) (by decide) (by rfl) (fun cc W hlo hhi hI => ?_) ?_
      · have q1 := hI.tk.cells; have q2 := hI.nm.cells; unfold TryTakeV at q1; unfold TryNumV at q2; go_simp; refine ⟨Below.refl _ _, ?_⟩; rfl
      simp only [Act.put, List.setIfInBounds_toArray, List.set_cons_zero, List.set_cons_succ]
      refine wpChain_writes (by decide) (by rfl) (fun W hI => ?_) ?_
      · have hI := (show TryDecAt S pT pN pR pO w.heap.size 56 w s.skip [cntV s, .slice none 0 0, .bool false, .int .i64 0] W from hI); go_simp; refine (Try_num_1 hI HA.out HP.out).mono ?_; rintro e w' ⟨rfl, h2⟩; refine ⟨?_, h2⟩; rfl
      simp only [Act.put, List.setIfInBounds_toArray, List.set_cons_zero, List.set_cons_succ]
      refine wpChain_det (by decide) (by decide) (by rfl) (fun cc W hlo hhi hI => ?_) ?_
      · go_simp; refine ⟨Below.refl _ _, ?_⟩; rfl
      simp only [Act.put, List.setIfInBounds_toArray, List.set_cons_zero, List.set_cons_succ]
      refine wpChain_writes (by decide) (by rfl) (fun W hI => ?_) ?_
      · have hI := (show TryDecAt S pT pN pR pO w.heap.size 56 w (TkSt.next s.skip 1) [cntV s, .slice none 0 0, .bool false, .int .i64 0] W from hI); go_simp; refine (Try_take_at hI HA.out HP.out (TkSt.num s.skip 1) (by omega)).mono ?_; rintro e w' ⟨rfl, h2⟩; refine ⟨?_, h2⟩; rfl
      simp only [Act.put, List.setIfInBounds_toArray, List.set_cons_zero, List.set_cons_succ]
      refine wpChain_det (by decide) (by decide) (by rfl) (fun cc W hlo hhi hI => ?_) ?_
      · go_simp; refine ⟨Below.refl _ _, ?_⟩; rfl
      simp only [Act.put, List.setIfInBounds_toArray, List.set_cons_zero, List.set_cons_succ]
      refine wpChain_writes (by decide) (by rfl) (fun W hI => ?_) ?_
      · have hI := (show TryDecAt S pT pN pR pO w.heap.size 56 w (TkSt.skip s.skip) [cntV s, .slice none 0 0, .bool false, .int .i64 0] W from hI); have q1 := hI.x.cells; have q3 := hI.x.marks; have q2 := hI.x.lt; have h2 := hI.setX (i := 1) (v := cntV s.skip) HP.out HPT.out HPN.out HSP.out (Nat.le_refl _); unfold cntV at h2 q1; go_simp; refine ⟨?_, h2⟩; rfl
      simp only [Act.put, List.setIfInBounds_toArray, List.set_cons_zero, List.set_cons_succ]
      refine wpChain_end fun W2 hI2 => ?_
      have HD2 := Lib.hid (show TryDecAt S pT pN pR pO w.heap.size 56 w s.skip.skip [cntV s, cntV s.skip, .bool false, .int .i64 0] W2 from hI2)
      have q1 := HD2.out.tk.cells
      have q2 := HD2.out.nm.cells
      unfold TryTakeV at q1
      unfold TryNumV at q2
      clear hI2
      go_wp2_with fail
      (with_reducible refine (Try_num_1 HD2.out HA.out HP.out).mono ?_); rintro e W3 ⟨rfl, h3⟩
      obtain ⟨bq, hbq⟩ : ∃ b, (rdItem s).int = b := ⟨_, rfl⟩
      have hb1 : (((s.skip.skip.num 1 : Nat) : Int) == 1) = bq := by
        rw [← hbq, Bool.eq_iff_iff]
        unfold rdItem
        simp; omega
      obtain ⟨m, hm⟩ : ∃ m, (s.skip.skip.next 1).num 8 = m := ⟨_, rfl⟩
      obtain ⟨nn, hnn⟩ : ∃ n, (rdItem s).n = n := ⟨_, rfl⟩
      have hn1 : wrap64 (m : Int) = nn := by rw [← hnn, ← hm]; rfl
      have hn2 : IntKind.i64.wrap (m : Int) = nn := by rw [← hn1, i64_wrap_def, wrap64_def]
      have HBQ := Lib.hid hbq
      have HNN := Lib.hid hnn
      have HD4 := Lib.hid (h3.setX (i := 2) (v := .bool bq) HP.out HPT.out HPN.out HSP.out (Nat.le_refl _))
      have c3 := h3.x.cells
      have m3 := h3.x.marks
      have l3 := h3.x.lt
      have q3 := HD4.out.nm.cells
      unfold TryNumV at q3
      have hcn := Try_num_8 HD4.out HA.out HP.out
      rw [hm] at hcn
      have HCN := Lib.hid hcn
      clear h3 q1 q2 hbq hnn hm hcn
      go_wp2_with fail
      (with_reducible refine HCN.out.mono ?_); rintro e W5 ⟨rfl, h5⟩
      have HD5 := Lib.hid h5
      have HD6 := Lib.hid (h5.setX (i := 3) (v := .int .i64 nn) HP.out HPT.out HPN.out HSP.out (Nat.le_refl _))
      have c5 := h5.x.cells
      have m5 := h5.x.marks
      have l5 := h5.x.lt
      clear c3 m3 l3 q3 h5
      go_wp2_with fail
      clear c5 m5 l5 hn1 hn2 hb1
      refine' wp_region_chain (fun c => TryDecAt S pT pN pR pO w.heap.size 56 w (rdItemS s) [cntV s, cntV s.skip, .bool bq, .int .i64 nn]) [2] [_, _, _, _] (by kernel_rfl) (by kernel_rfl) (fun c W W' h hb => h.ext hb) (HD6.out) ?main3
      case main3 =>
        refine wpChain_det (by decide) (by decide) (by rfl) (fun cc W hlo hhi hI => ?_) ?_
        · have q1 := hI.x.cells; unfold cntV at q1; go_simp; refine ⟨Below.refl _ _, ?_⟩; rfl
        simp only [Act.put, List.setIfInBounds_toArray, List.set_cons_zero, List.set_cons_succ]
        refine wpChain_det (by decide) (by decide) (by rfl) (fun cc W hlo hhi hI => ?_) ?_
        · have q1 := hI.st.hO.cells; go_simp; refine ⟨Below.refl _ _, ?_⟩; rfl
        simp only [Act.put, List.setIfInBounds_toArray, List.set_cons_zero, List.set_cons_succ]
        refine wpChain_writes (by decide) (by rfl) (fun W hI => ?_) ?_
        · have q1 := hI.x.cells; have q2 := hI.x.marks; have q3 := hI.x.lt; have h2 := (((hI.setX (i := 0) (v := cntV s) HP.out HPT.out HPN.out HSP.out (Nat.le_refl _)).setX (i := 1) (v := cntV s.skip) HP.out HPT.out HPN.out HSP.out (Nat.le_refl _)).setX (i := 2) (v := .bool bq) HP.out HPT.out HPN.out HSP.out (Nat.le_refl _)).setX (i := 3) (v := .int .i64 nn) HP.out HPT.out HPN.out HSP.out (Nat.le_refl _); unfold cntV at h2 q1; go_simp; refine ⟨?_, h2⟩; rfl
        simp only [Act.put, List.setIfInBounds_toArray, List.set_cons_zero, List.set_cons_succ]
        refine wpChain_det (by decide) (by decide) (by rfl) (fun cc W hlo hhi hI => ?_) ?_
        · go_simp; refine ⟨Below.refl _ _, ?_⟩; rfl
        simp only [Act.put, List.setIfInBounds_toArray, List.set_cons_zero, List.set_cons_succ]
        refine wpChain_end fun W7 hI7 => ?_
        have HD7 := Lib.hid (show TryDecAt S pT pN pR pO w.heap.size 56 w (rdItemS s) [cntV s, cntV s.skip, .bool bq, .int .i64 nn] W7 from hI7)
        have c7 := HD7.out.x.cells
        unfold cntV at c7
        clear hI7
        go_wp2
        refine bodyPost_ret (v := .tuple #[.agg #[cntV s, cntV s.skip, .bool bq, .int .i64 nn], .bool (rdItemS s).ok]) (by simp [results, Try.results36, go_sem, c7, cntV]) rfl ⟨by rw [HBQ.out, HNN.out], HD7.out.st, HD7.out.only⟩
end Go.Proofs.Ytfhhcpolicdfpaa
