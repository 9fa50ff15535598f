/-
  A region that draws its order and in which one operation stores into a block that the region itself made: what is known behind the store may speak of what the store looks at.
-/
import Derived.Test.YtfhhcpolicdfpaaNdE
import Derived.MapKept
namespace Go.Dav
set_option linter.unusedVariables false
set_option linter.unusedSimpArgs false
open Go Go.RowKit
theorem GivesK.mono {P : Program} {K : World → World → Prop} {o : Oper} {a : Act} {W : World} {R R' : Value → World → Prop} (h : GivesK P K o a W R) (hr : ∀ v W', R v W' → R' v W') : GivesK P K o a W R' := by
  unfold GivesK at *
  generalize (execOp a.eval o).run P W = r at *
  cases r with
  | ok n w' =>
    cases n
    case value u => exact ⟨h.1, hr _ _ h.2⟩
    case skip => exact ⟨h.1, hr _ _ h.2⟩
    case enter f args => exact ⟨h.1, h.2.mono fun e w'' ⟨v, he, hb, hv⟩ => ⟨v, he, hb, hr _ _ hv⟩⟩
    all_goals exact h
  | halt x w' => exact h
theorem Gives.mono {P : Program} {o : Oper} {a : Act} {W : World} {R R' : Value → World → Prop} (h : Gives P o a W R) (hr : ∀ v W', R v W' → R' v W') : Gives P o a W R' := by
  unfold Gives at *
  generalize (execOp a.eval o).run P W = r at *
  cases r with
  | ok n w' =>
    cases n
    case value u => exact ⟨h.1, hr _ _ h.2⟩
    case skip => exact ⟨h.1, hr _ _ h.2⟩
    case enter f args => exact ⟨h.1, h.2.mono fun e w'' ⟨v, he, hb, hv⟩ => ⟨v, he, hb, hr _ _ hv⟩⟩
    all_goals exact h
  | halt x w' => exact h
theorem lay_congr {ops : Array Oper} {vs vs' : Nat → Value} {a : Act} : ∀ {m : Nat}, (∀ j, j < m → vs j = vs' j) → lay ops vs a m = lay ops vs' a m
  | 0, _ => rfl
  | m + 1, h => by rw [lay, lay, lay_congr (fun j hj => h j (by omega)), h m (by omega)]
/-- An operation that makes a block, whatever the others yield. -/
def allocB (o : Oper) : Bool := match o.op, o.guard with
  | .alloc _, none => true
  | _, _ => false
def isAlloc (ops : Array Oper) (i : Nat) : Bool := match ops[i]? with
  | some o => allocB o
  | none => false
theorem alloc_fresh {P : Program} {o : Oper} {ρ : Operand → Value} {W W' : World} {n : Next} (ha : allocB o = true) (h : (execOp ρ o).run P W = .ok n W') : n = .value (.pointer (some ⟨W.heap.size, 0, none⟩)) ∧ W'.heap.size = W.heap.size + 1 := by
  obtain ⟨d, op, ty, pos, aft, g⟩ := o
  unfold allocB at ha
  split at ha
  · rename_i _ _ t e _
    dsimp only at e
    subst e
    simp only [execOp, Sem.run_bind, Instr.alloc] at h
    cases hz : (zeroValue t).run P W with
    | halt x w' => rw [hz] at h; simp [Result.andThen] at h
    | ok z w' =>
      have := MapKept.run_zeroValue_world hz
      subst this
      rw [hz] at h
      simp only [Result.andThen] at h
      simp [newVar, newRow, Result.andThen] at h
      exact ⟨h.1.symm, by rw [← h.2]; simp⟩
  · cases ha
theorem GivesK.alloc {P : Program} {K : World → World → Prop} {o : Oper} {a : Act} {W : World} {R : Value → World → Prop} (h : GivesK P K o a W R) (ha : allocB o = true) : GivesK P K o a W (fun v W' => R v W' ∧ v = .pointer (some ⟨W.heap.size, 0, none⟩) ∧ W'.heap.size = W.heap.size + 1) := by
  unfold GivesK at *
  cases hr : (execOp a.eval o).run P W with
  | ok n w' =>
    obtain ⟨h1, h2⟩ := alloc_fresh ha hr
    subst h1
    rw [hr] at h
    exact ⟨h.1, h.2, rfl, h2⟩
  | halt x w' => rw [hr] at h; exact h
section
variable {P : Program} {ops : Array Oper} {K0 : World → World → Prop} {p0 : Nat} {E : Act → World → Prop}

structure MidM (K0 : World → World → Prop) (p0 : Nat) (E : Act → World → Prop) (ops : Array Oper) (n : Nat) (ps : Nat → Value ⊕ (Value → World → Prop)) (a0 : Act) (w0 : World) (listed : Array Bool) (vs : Nat → Value) (a : Act) (W : World) : Prop where
  ext : K0 w0 W
  ext2 : listed.getD p0 false = false → Below w0.heap.size w0 W
  size : a.tmps.size = a0.tmps.size
  defers : a.defers = a0.defers
  slots : ∀ t : Nat, a.tmps[t]? = slotOf ops (fun j => listed.getD j false) vs a0 n t
  held : ∀ j, j < n → listed.getD j false = true → holdsOf (ps j) (vs j) W
  heldE : p0 < n → listed.getD p0 false = true → E (lay ops vs a0 p0) W
  old : ∀ i, i < n → isAlloc ops i = true → listed.getD i false = true → ∃ p, vs i = .pointer (some ⟨p, 0, none⟩) ∧ p < W.heap.size
  apart : ∀ i j, i < n → j < n → i ≠ j → isAlloc ops i = true → isAlloc ops j = true → listed.getD i false = true → listed.getD j false = true → vs i ≠ vs j

def stepForM (P : Program) (K0 : World → World → Prop) (p0 : Nat) (E : Act → World → Prop) (ops : Array Oper) (ps : Nat → Value ⊕ (Value → World → Prop)) (a0 : Act) (w0 : World) (vs : Nat → Value) (i : Nat) : Prop :=
  match ops[i]? with
  | none => True
  | some o => ∀ W, K0 w0 W → (i = p0 → Below w0.heap.size w0 W) → depsHold ops ps vs o W i →
      if Region.wanted o (yielded ops (lay ops vs a0 i).tmps) then GivesK P (relOf K0 p0 i) o (lay ops vs a0 i) W (fun v W' => holdsOf (ps i) v W' ∧ (i = p0 → E (lay ops vs a0 i) W')) else i ≠ p0 ∧ holdsOf (ps i) undef W

theorem mid_stepM (g : Goes K0) (hsz : ∀ W W', K0 W W' → W.heap.size ≤ W'.heap.size) (hE1 : ∀ a W W', E a W → Below W.heap.size W W' → E a W') (hE2 : ∀ o a a' W, ops[p0]? = some o → (∀ t ∈ o.looksAt ops, a.tmps[t]? = a'.tmps[t]?) → E a W → E a' W) {n : Nat} {ps : Nat → Value ⊕ (Value → World → Prop)} {a0 : Act} {w0 : World} {listed : Array Bool} {vs : Nat → Value} {a : Act} {W : World} {Q : Exit → Act → World → Prop}
    (hB : tidyB ops n = true) (hsel : Region.noSelect ops = true) (hst : ∀ j R, ps j = .inr R → staysK K0 p0 j R)
    (hop : ∀ vs i, i < n → stepForM P K0 p0 E ops ps a0 w0 vs i) (inv : HeadInv .any ops n listed) (mid : MidM K0 p0 E ops n ps a0 w0 listed vs a W)
    {i : Nat} (hr : i ∈ Region.ready .any ops listed) (hin : i < n) {K : Act → World → Prop}
    (hk : ∀ vs a W, HeadInv .any ops n (listed.setIfInBounds i true) → MidM K0 p0 E ops n ps a0 w0 (listed.setIfInBounds i true) vs a W → K a W) : wpOp P ops Q i K a W := by
  obtain ⟨hun, oi, hoi, hall⟩ := mem_ready.1 hr
  have hunf : listed.getD i false = false := getD_both hun
  have hisz : i < listed.size := by rw [inv.size]; exact (Array.getElem?_eq_some_iff.1 hoi).1
  -- what a listed operation has to do with i
  have later : ∀ j oj d, j < n → ops[j]? = some oj → oj.dst = some d → listed.getD j false = true → (d ∈ oi.looksAt ops ∨ oi.dst = some d) → j < i := by
    intro j oj d hj hoj hd hl hlook
    have hji : i ≠ j := fun e => by subst e; rw [hunf] at hl; cases hl
    obtain ⟨_, h1, _⟩ := tidy_spec hB hin hj hoi hoj hd (hlook.imp id fun h => ⟨h, hji⟩)
    rcases Nat.lt_trichotomy i j with h | h | h
    · obtain ⟨oj', hoj', e, he, hb, hon⟩ := Region.waitsFor_spec (h1 h)
      have := inv.closed j oj' hoj' hl e he hb
      rw [hon, hunf] at this
      cases this
    · exact absurd h hji
    · exact h
  have early : ∀ j oj d, j < i → ops[j]? = some oj → oj.dst = some d → (d ∈ oi.looksAt ops) → listed.getD j false = true := by
    intro j oj d hj hoj hd hlook
    obtain ⟨_, _, h2⟩ := tidy_spec hB hin (by omega) hoi hoj hd (.inl hlook)
    obtain ⟨oi', hoi', e, he, hb, hon⟩ := Region.waitsFor_spec (h2 hj)
    have : oi' = oi := Option.some.inj (hoi'.symm.trans hoi)
    subst this
    have := hall e he hb
    rwa [hon] at this
  have looks : ∀ t ∈ oi.looksAt ops, (lay ops vs a0 i).tmps[t]? = a.tmps[t]? := by
    intro t ht
    rw [lay_get, mid.slots t]
    unfold slotOf
    rw [lastW_eq (ops := ops) (t := t) (p := fun _ => true) (q := fun j => listed.getD j false) (m := i) (n := n) ?_]
    intro j
    constructor
    · rintro ⟨h1, _, h3⟩
      obtain ⟨oj, hoj, hd⟩ := Option.bind_eq_some_iff.1 h3
      exact ⟨by omega, early j oj t h1 hoj hd ht, h3⟩
    · rintro ⟨h1, h2, h3⟩
      obtain ⟨oj, hoj, hd⟩ := Option.bind_eq_some_iff.1 h3
      exact ⟨later j oj t h1 hoj hd h2 (.inl ht), rfl, h3⟩
  have hdeps : depsHold ops ps vs oi W i := depsHold_of i fun j d hj hd hl => by
    obtain ⟨oj, hoj, hd'⟩ := Option.bind_eq_some_iff.1 hd
    exact mid.held j (by omega) (early j oj d hj hoj hd' hl)
  have hs := hop vs i hin
  unfold stepForM at hs
  simp only [hoi] at hs
  have hs := hs W mid.ext (fun e => mid.ext2 (by rw [← e]; exact hunf)) hdeps
  rw [wanted_congr looks] at hs
  have next : ∀ v W', relOf K0 p0 i W W' → (holdsOf (ps i) v W' ∧ (i = p0 → E (lay ops vs a0 i) W')) → (isAlloc ops i = true → v = .pointer (some ⟨W.heap.size, 0, none⟩) ∧ W'.heap.size = W.heap.size + 1) → K (a.put oi.dst v) W' := by
    rintro v W' hb ⟨hv, hve⟩ hal
    have hgrow : W.heap.size ≤ W'.heap.size := hsz _ _ (relOf_le g hb)
    refine hk (fun j => if j = i then v else vs j) _ W' (inv.set hr hin) ⟨g.trans _ _ _ mid.ext (relOf_le g hb), fun hp0 => ?_, by rw [put_size, mid.size], by rw [put_defers, mid.defers], fun t => ?_, fun j hj hl => ?_, fun hpn hl => ?_, fun j hj hja hl => ?_, fun j j' hj hj' hne hja hja' hl hl' => ?_⟩
    · have hne : p0 ≠ i := fun e => by subst e; simp [hisz] at hp0
      have hb' : Below W.heap.size W W' := by unfold relOf at hb; rw [if_neg (fun e => hne e.symm)] at hb; exact hb
      exact ext_trans (mid.ext2 (by rwa [getD_set_ne false (Ne.symm hne)] at hp0)) hb'
    · rw [put_get, mid.size]
      unfold slotOf
      by_cases hd : oi.dst = some t
      · simp only [hd, if_true]
        have : lastW ops (fun j => (listed.setIfInBounds i true).getD j false) t n = some i := by
          cases hc : lastW ops (fun j => (listed.setIfInBounds i true).getD j false) t n with
          | none => exact absurd ⟨by simp [hisz], by simp [hoi, hd]⟩ (lastW_none hc i hin)
          | some j =>
            obtain ⟨c1, c2, c3, c4⟩ := lastW_some hc
            obtain ⟨oj, hoj, hdj⟩ := Option.bind_eq_some_iff.1 c3
            by_cases e : j = i
            · rw [e]
            · have hlj : listed.getD j false = true := by rwa [getD_set_ne false (Ne.symm e)] at c2
              have := later j oj t c1 hoj hdj hlj (.inr hd)
              exact absurd ⟨by simp [hisz], by simp [hoi, hd]⟩ (c4 i this hin)
        rw [this]
        simp
      · simp only [hd, if_false]
        rw [mid.slots t]
        unfold slotOf
        have : lastW ops (fun j => (listed.setIfInBounds i true).getD j false) t n = lastW ops (fun j => listed.getD j false) t n := by
          refine lastW_eq fun j => ?_
          by_cases e : j = i
          · subst e; simp [hoi, hd]
          · rw [getD_set_ne false (Ne.symm e)]
        rw [this]
        cases hc : lastW ops (fun j => listed.getD j false) t n with
        | none => rfl
        | some j =>
          obtain ⟨c1, c2, c3, c4⟩ := lastW_some hc
          have e : j ≠ i := fun e => by subst e; simp [hoi, hd] at c3
          simp [e]
    · by_cases e : j = i
      · subst e; simpa using hv
      · simp only [e, if_false]
        have hl' : listed.getD j false = true := by rwa [getD_set_ne false (Ne.symm e)] at hl
        have h1 := mid.held j hj hl'
        cases hp : ps j with
        | inl u => simpa [hp, holdsOf] using h1
        | inr R => simp only [hp, holdsOf] at h1 ⊢; exact (hst j R hp).step e h1 hb
    · by_cases e : i = p0
      · subst e
        have h1 := hve rfl
        have e2 : lay ops (fun j => if j = i then v else vs j) a0 i = lay ops vs a0 i := lay_congr fun j hj => by
          have : j ≠ i := by omega
          simp [this]
        rw [e2]; exact h1
      · have hl' : listed.getD p0 false = true := by rwa [getD_set_ne false e] at hl
        have h1 := mid.heldE hpn hl'
        have hb' : Below W.heap.size W W' := by unfold relOf at hb; rw [if_neg e] at hb; exact hb
        have h2 := hE1 _ _ _ h1 hb'
        obtain ⟨op, hop'⟩ : ∃ o, ops[p0]? = some o := by
          have : p0 < ops.size := by
            rcases Nat.lt_or_ge p0 ops.size with h | h
            · exact h
            · exfalso
              rw [Array.getD_eq_getD_getElem?, Array.getElem?_eq_none (by rw [inv.size]; exact h)] at hl'
              cases hl'
          exact ⟨_, Array.getElem?_eq_getElem this⟩
        refine hE2 op _ _ _ hop' (fun t ht => ?_) h2
        rw [lay_get, lay_get]
        unfold slotOf
        cases hc : lastW ops (fun _ => true) t p0 with
        | none => rfl
        | some j =>
          obtain ⟨c1, _, c3, _⟩ := lastW_some hc
          obtain ⟨oj, hoj, hdj⟩ := Option.bind_eq_some_iff.1 c3
          obtain ⟨_, _, h5⟩ := tidy_spec hB hpn (by omega) hop' hoj hdj (.inl ht)
          obtain ⟨op', hop2, ed, hed, hbd, hon⟩ := Region.waitsFor_spec (h5 c1)
          have hlj := inv.closed p0 op' hop2 hl' ed hed hbd
          rw [hon] at hlj
          have hji : j ≠ i := fun e => by subst e; rw [hlj] at hunf; cases hunf
          simp [hji]
    · by_cases e : j = i
      · subst e
        obtain ⟨h1, h2⟩ := hal hja
        exact ⟨W.heap.size, by simpa using h1, by omega⟩
      · have hl' : listed.getD j false = true := by rwa [getD_set_ne false (Ne.symm e)] at hl
        obtain ⟨p, h1, h2⟩ := mid.old j hj hja hl'
        exact ⟨p, by simpa [e] using h1, by omega⟩
    · by_cases e : j = i
      · subst e
        have e' : ¬ j' = j := fun h => hne h.symm
        have hl2 : listed.getD j' false = true := by rwa [getD_set_ne false (Ne.symm e')] at hl'
        obtain ⟨p, h1, h2⟩ := mid.old j' hj' hja' hl2
        obtain ⟨h3, _⟩ := hal hja
        simp only [if_true, if_neg e', h3, h1]
        intro h
        cases h
        omega
      · have hl1 : listed.getD j false = true := by rwa [getD_set_ne false (Ne.symm e)] at hl
        by_cases e2 : j' = i
        · subst e2
          obtain ⟨p, h1, h2⟩ := mid.old j hj hja hl1
          obtain ⟨h3, _⟩ := hal hja'
          simp only [if_true, if_neg e, h3, h1]
          intro h
          cases h
          omega
        · have hl2 : listed.getD j' false = true := by rwa [getD_set_ne false (Ne.symm e2)] at hl'
          simp only [if_neg e, if_neg e2]
          exact mid.apart j j' hj hj' hne hja hja' hl1 hl2
  unfold wpOp
  simp only [hoi]
  split
  · rename_i hw
    simp only [hw, if_true] at hs
    have hs2 := (hs.of_eval (exec_congr (fun cs b => Region.noSelect_spec hsel i oi cs b hoi) (fun t ht => (looks t ht).symm)))
    by_cases hai : isAlloc ops i = true
    · have hal : allocB oi = true := by unfold isAlloc at hai; rw [hoi] at hai; exact hai
      exact .inl (wp_of_givesK (relOf_goes g p0 i) (hs2.alloc hal) fun v W' hb hv => next v W' hb hv.1 fun _ => hv.2)
    · exact .inl (wp_of_givesK (relOf_goes g p0 i) hs2 fun v W' hb hv => next v W' hb hv fun h => absurd h hai)
  · rename_i hw
    simp only [hw] at hs
    have hs : i ≠ p0 ∧ holdsOf (ps i) undef W := by simpa using hs
    refine next _ _ (relOf_bel g (Below.refl _ _)) ⟨hs.2, fun e => absurd e hs.1⟩ fun hai => ?_
    exfalso
    have hal : allocB oi = true := by unfold isAlloc at hai; rw [hoi] at hai; exact hai
    obtain ⟨d, op, ty, pos, aft, gd⟩ := oi
    unfold allocB at hal
    split at hal
    · rename_i e
      dsimp only at e
      subst e
      exact hw rfl
    · cases hal


theorem wpAny_of_midM (g : Goes K0) (hsz : ∀ W W', K0 W W' → W.heap.size ≤ W'.heap.size) (hE1 : ∀ a W W', E a W → Below W.heap.size W W' → E a W') (hE2 : ∀ o a a' W, ops[p0]? = some o → (∀ t ∈ o.looksAt ops, a.tmps[t]? = a'.tmps[t]?) → E a W → E a' W) {n : Nat} {ps : Nat → Value ⊕ (Value → World → Prop)} {a0 : Act} {w0 : World} {Q : Exit → Act → World → Prop} {l : List Oper}
    (hl : ∀ j : Nat, l[j]? = ops[n + j]?) (hll : l.length = ops.size - n)
    (hB : partsB ops n = true) (hst : ∀ j R, ps j = .inr R → staysK K0 p0 j R)
    (hop : ∀ vs i, i < n → stepForM P K0 p0 E ops ps a0 w0 vs i)
    (hend : ∀ vs W, K0 w0 W → allHold ps vs W n → (p0 < n → E (lay ops vs a0 p0) W) → (∀ i j, i < n → j < n → i ≠ j → isAlloc ops i = true → isAlloc ops j = true → vs i ≠ vs j) → wpList P ops Q l (lay ops vs a0 n) W) :
    ∀ (f : Nat) (listed : Array Bool) (vs : Nat → Value) (a : Act) (W : World), HeadInv .any ops n listed → MidM K0 p0 E ops n ps a0 w0 listed vs a W → cnt listed n = f →
      wpAny P .any ops Q (f + (ops.size - n)) listed a W := by
  simp only [partsB, Bool.and_eq_true, decide_eq_true_eq] at hB
  obtain ⟨⟨⟨⟨⟨hsel, htidy⟩, hback⟩, hn⟩, htail0⟩, hseq⟩ := hB
  have htail : n = ops.size ∨ (Region.sinkB .any ops n = true ∧ Region.chainB .any ops n = true) := by simpa using htail0
  intro f
  induction f with
  | zero =>
    intro listed vs a W inv mid hc
    have hall := cnt_zero listed n hc
    have hlisted : listed = (Array.range ops.size).map fun j => decide (j < n) := by
      apply Array.ext
      · simp [inv.size]
      · intro j h1 h2
        simp only [Array.getElem_map, Array.getElem_range]
        by_cases hj : j < n
        · have := hall j hj
          simp only [h1, Array.getD_eq_getD_getElem?, Array.getElem?_eq_getElem, Option.getD_some] at this
          simp [hj, this]
        · have := getD_both (inv.tail j (by omega) (by simpa using h2))
          simp only [h1, Array.getD_eq_getD_getElem?, Array.getElem?_eq_getElem, Option.getD_some] at this
          simp [hj, this]
    have ha : a = lay ops vs a0 n := act_ext (fun t => by
      rw [lay_get, mid.slots t]
      unfold slotOf
      rw [lastW_eq (ops := ops) (t := t) (p := fun j => listed.getD j false) (q := fun _ => true) (m := n) (n := n) ?_]
      intro j
      constructor
      · rintro ⟨h1, _, h3⟩; exact ⟨h1, rfl, h3⟩
      · rintro ⟨h1, _, h3⟩; exact ⟨h1, hall j h1, h3⟩) (by rw [mid.defers, lay_defers])
    have h := hend vs W mid.ext (allHold_of n fun j hj => mid.held j hj (hall j hj)) (fun hp => mid.heldE hp (hall p0 hp)) (fun i j hi hj hne ha hb => mid.apart i j hi hj hne ha hb (hall i hi) (hall j hj))
    rw [Nat.zero_add, ← hll]
    rw [← hlisted, ← hll] at hseq
    rw [ha]
    exact wpAny_of_seq l n listed _ W hl hseq h
  | succ f ih =>
    intro listed vs a W inv mid hc
    obtain ⟨i0, hi0, hu0, hlow⟩ := least_unlisted listed n (by omega)
    rw [show f + 1 + (ops.size - n) = (f + (ops.size - n)) + 1 by omega]
    refine ⟨fun h => ?_, fun i hi => ?_⟩
    · exfalso
      have h1 := List.all_eq_true.1 hback i0 (List.mem_range.2 hi0)
      cases ho : ops[i0]? with
      | none => simp [ho] at h1
      | some o =>
        simp only [ho] at h1
        have : i0 ∈ Region.ready .any ops listed := by
          refine mem_ready.2 ⟨getD_in (by rw [inv.size]; omega) hu0, o, ho, fun e he hb => ?_⟩
          have h2 := Array.all_eq_true'.1 h1 e he
          simp only [hb, Bool.not_true, Bool.false_or, decide_eq_true_eq] at h2
          exact hlow e.on h2
        rw [h] at this
        cases this
    · have hin : i < n := by
        rcases Nat.lt_or_ge i n with h | h
        · exact h
        · rcases htail with ht | ht
          · obtain ⟨_, o, ho, _⟩ := mem_ready.1 hi
            have := (Array.getElem?_eq_some_iff.1 ho).1
            omega
          · rcases Nat.lt_or_ge n ops.size with hns | hns
            · exact absurd hi (tail_waits ht.1 ht.2 hns inv _ i0 rfl hi0 (getD_in (by rw [inv.size]; omega) hu0) i h)
            · obtain ⟨_, o, ho, _⟩ := mem_ready.1 hi
              have := (Array.getElem?_eq_some_iff.1 ho).1
              omega
      have hun := (mem_ready.1 hi).1
      refine mid_stepM g hsz hE1 hE2 htidy hsel hst hop inv mid hi hin fun vs' a' W' inv' mid' => ih _ vs' a' W' inv' mid' ?_
      have := cnt_set listed i (by rw [inv.size]; omega) (getD_both hun) n hin
      omega

theorem wp_region_partsM (g : Goes K0) {id : Nat} {ops : List Oper} (hsz : ∀ W W', K0 W W' → W.heap.size ≤ W'.heap.size) (hE1 : ∀ a W W', E a W → Below W.heap.size W W' → E a W') (hE2 : ∀ o a a' W, ops.toArray[p0]? = some o → (∀ t ∈ o.looksAt ops.toArray, a.tmps[t]? = a'.tmps[t]?) → E a W → E a' W) {Q : Exit → Act → World → Prop} {a : Act} {w : World} (n : Nat) (ps : Nat → Value ⊕ (Value → World → Prop)) (hm : P.follows .mixedOrders = true) (hB : partsB ops.toArray n = true)
    (hst : ∀ j R, ps j = .inr R → staysK K0 p0 j R)
    (hop : ∀ vs i, i < n → stepForM P K0 p0 E ops.toArray ps a w vs i)
    (hend : ∀ vs W, K0 w W → allHold ps vs W n → (p0 < n → E (lay ops.toArray vs a p0) W) → (∀ i j, i < n → j < n → i ≠ j → isAlloc ops.toArray i = true → isAlloc ops.toArray j = true → vs i ≠ vs j) → wpList P ops.toArray Q (ops.drop n) (lay ops.toArray vs a n) W) : (Code.region id ops.toArray true).wp P Q a w := by
  have hn : n ≤ ops.toArray.size := by
    simp only [partsB, Bool.and_eq_true, decide_eq_true_eq] at hB
    exact hB.1.1.2
  have he : K0 w { w with drawn := w.drawn + 1 } := g.bel _ _ (Below.refl _ _).drew
  have hc : ∀ m, cnt (Array.replicate ops.toArray.size false) m = m := fun m => by
    induction m with
    | zero => rfl
    | succ m ih => rw [cnt, ih, getD_replicate_false]; rfl
  refine wp_region_any hm ?_
  have := wpAny_of_midM g hsz hE1 hE2 (P := P) (ops := ops.toArray) (l := ops.drop n) (fun j => by simp [List.getElem?_drop]) (by simp) hB hst hop hend n (Array.replicate ops.toArray.size false) (fun _ => undef) a { w with drawn := w.drawn + 1 }
    ⟨by simp, fun j oj _ hl => (by rw [getD_replicate_false] at hl; cases hl), fun t _ ht => getD_in (by simpa using ht) (getD_replicate_false _ _)⟩
    ⟨he, fun _ => (Below.refl _ _).drew, rfl, rfl, fun t => ?_, fun j _ hl => (by rw [getD_replicate_false] at hl; cases hl), fun _ hl => (by rw [getD_replicate_false] at hl; cases hl), fun _ _ _ hl => (by rw [getD_replicate_false] at hl; cases hl), fun _ _ _ _ _ _ _ hl => (by rw [getD_replicate_false] at hl; cases hl)⟩ (hc n)
  · rwa [show n + (ops.toArray.size - n) = ops.toArray.size by omega] at this
  · unfold slotOf
    rw [show lastW ops.toArray (fun j => (Array.replicate ops.toArray.size false).getD j false) t n = none from ?_]
    cases h : lastW ops.toArray (fun j => (Array.replicate ops.toArray.size false).getD j false) t n with
    | none => rfl
    | some j => have := (lastW_some h).2.1; rw [getD_replicate_false] at this; cases this

end

section
variable {P : Program} {K0 : World → World → Prop} {p0 : Nat} {E : Act → World → Prop}
/-- The walk in the order of the text; X: what is known of the world once the store is done. -/
def wpPartsM (P : Program) (K0 : World → World → Prop) (p0 : Nat) (E : Act → World → Prop) (ops : Array Oper) (w : World) (Q : Exit → Act → World → Prop) : Nat → List Oper → List Piece → List (Tmp × (World → Prop)) → (World → Prop) → List Value → Act → Prop
  | k, o :: os, .inl v :: ps, G, X, A, a =>
    (k ≠ p0 ∧ (if Region.wanted o (yielded ops a.tmps) then (∀ W, K0 w W → near ops o G W → GivesK P (relOf K0 p0 k) o a W (fun u _ => u = v)) else undef = v)) ∧ wpPartsM P K0 p0 E ops w Q (k + 1) os ps G X A (a.put o.dst v)
  | k, o :: os, .inr R :: ps, G, X, A, a =>
    (staysK K0 p0 k R ∧ Region.wanted o (yielded ops a.tmps) = true ∧ (∀ W, K0 w W → (k = p0 → Below w.heap.size w W) → near ops o G W → GivesK P (relOf K0 p0 k) o a W (fun v W' => R v W' ∧ (k = p0 → E a W')))) ∧
      ∀ u, wpPartsM P K0 p0 E ops w Q (k + 1) os ps (match o.dst with | some d => (d, R u) :: G | none => G) (if k = p0 then E a else X) (if allocB o then u :: A else A) (a.put o.dst u)
  | _, os, _, G, X, A, a => ∀ W, K0 w W → every G W → X W → A.Nodup → wpList P ops Q os a W
end
section
variable {P : Program} {ops : Array Oper} {K0 : World → World → Prop} {p0 : Nat} {E : Act → World → Prop}
/-- The blocks made so far. -/
def allocs (ops : Array Oper) (qs : Nat → Piece) (vs : Nat → Value) : Nat → List Value
  | 0 => []
  | k + 1 => match qs k with
    | .inl _ => allocs ops qs vs k
    | .inr _ => if isAlloc ops k then vs k :: allocs ops qs vs k else allocs ops qs vs k
theorem allocs_mem {qs : Nat → Piece} {vs : Nat → Value} {x : Value} : ∀ {k : Nat}, x ∈ allocs ops qs vs k → ∃ j, j < k ∧ isAlloc ops j = true ∧ x = vs j
  | 0, h => by simp [allocs] at h
  | k + 1, h => by
    unfold allocs at h
    split at h
    · obtain ⟨j, h1, h2⟩ := allocs_mem h; exact ⟨j, by omega, h2⟩
    · split at h
      · rename_i hk
        rcases List.mem_cons.1 h with h | h
        · exact ⟨k, by omega, hk, h⟩
        · obtain ⟨j, h1, h2⟩ := allocs_mem h; exact ⟨j, by omega, h2⟩
      · obtain ⟨j, h1, h2⟩ := allocs_mem h; exact ⟨j, by omega, h2⟩
theorem allocs_nodup {qs : Nat → Piece} {vs : Nat → Value} {n : Nat} (h : ∀ i j, i < n → j < n → i ≠ j → isAlloc ops i = true → isAlloc ops j = true → vs i ≠ vs j) : ∀ {k : Nat}, k ≤ n → (allocs ops qs vs k).Nodup
  | 0, _ => by simp [allocs]
  | k + 1, hk => by
    unfold allocs
    split
    · exact allocs_nodup h (by omega)
    · split
      · rename_i ha
        refine List.nodup_cons.2 ⟨fun hm => ?_, allocs_nodup h (by omega)⟩
        obtain ⟨j, h1, h2, h3⟩ := allocs_mem hm
        exact h k j (by omega) (by omega) (by omega) ha h2 h3
      · exact allocs_nodup h (by omega)
theorem parts_specM {w : World} {Q : Exit → Act → World → Prop} {a : Act} {qs : Nat → Piece} (vs : Nat → Value) :
    ∀ (l : List Oper) (ps : List Piece) (k : Nat) (X : World → Prop), (∀ j : Nat, l[j]? = ops[k + j]?) → (∀ j p, ps[j]? = some p → qs (k + j) = p) → ps.length ≤ l.length →
      wpPartsM P K0 p0 E ops w Q k l ps (facts ops qs vs k) X (allocs ops qs vs k) (lay ops (fixed qs vs) a k) →
      (∀ i, k ≤ i → i < k + ps.length → ∃ o, ops[i]? = some o ∧ ∀ W, K0 w W → (i = p0 → Below w.heap.size w W) → near ops o (facts ops qs vs i) W →
        (if Region.wanted o (yielded ops (lay ops (fixed qs vs) a i).tmps) then GivesK P (relOf K0 p0 i) o (lay ops (fixed qs vs) a i) W (fun v W' => holdsOf (qs i) v W' ∧ (i = p0 → E (lay ops (fixed qs vs) a i) W')) else i ≠ p0 ∧ holdsOf (qs i) undef W)) ∧
      (∀ i R, k ≤ i → i < k + ps.length → qs i = .inr R → staysK K0 p0 i R) ∧
      (∀ W, K0 w W → every (facts ops qs vs (k + ps.length)) W → (if p0 < k then X W else (p0 < k + ps.length → E (lay ops (fixed qs vs) a p0) W)) → (p0 < k ∨ p0 < k + ps.length) → (allocs ops qs vs (k + ps.length)).Nodup → wpList P ops Q (l.drop ps.length) (lay ops (fixed qs vs) a (k + ps.length)) W)
  | l, [], k, X, _, _, _, h => by
    refine ⟨fun i h1 h2 => ?_, fun i R h1 h2 => ?_, fun W hW he hx hk hnd => ?_⟩
    · simp at h2; omega
    · simp at h2; omega
    · have hk : p0 < k := by simpa using hk
      rw [if_pos hk] at hx
      cases l <;> (unfold wpPartsM at h; simpa using h W hW (by simpa using he) hx (by simpa using hnd))
  | [], _ :: _, _, _, _, _, hlen, _ => by simp at hlen
  | o :: l, p :: ps, k, X, hl, hq, hlen, h => by
    have h0 : ops[k]? = some o := by simpa using (hl 0).symm
    have hp : qs k = p := by simpa using hq 0 p rfl
    have hb : (ops[k]?).bind (·.dst) = o.dst := by rw [h0]; rfl
    have rest := fun (X' : World → Prop) (h' : wpPartsM P K0 p0 E ops w Q (k + 1) l ps (facts ops qs vs (k + 1)) X' (allocs ops qs vs (k + 1)) (lay ops (fixed qs vs) a (k + 1))) => parts_specM vs l ps (k + 1) X' (fun j => by have := hl (j + 1); simpa [Nat.add_assoc, Nat.add_comm 1 j] using this)
      (fun j q hj => by have := hq (j + 1) q (by simpa using hj); simpa [Nat.add_assoc, Nat.add_comm 1 j] using this) (by simpa using hlen) h'
    have key : ∃ X', (k ≠ p0 → X' = X) ∧ (k = p0 → X' = E (lay ops (fixed qs vs) a k)) ∧ wpPartsM P K0 p0 E ops w Q (k + 1) l ps (facts ops qs vs (k + 1)) X' (allocs ops qs vs (k + 1)) (lay ops (fixed qs vs) a (k + 1)) ∧
        (∀ R, p = .inr R → staysK K0 p0 k R) ∧
        ∀ W, K0 w W → (k = p0 → Below w.heap.size w W) → near ops o (facts ops qs vs k) W →
          (if Region.wanted o (yielded ops (lay ops (fixed qs vs) a k).tmps) then GivesK P (relOf K0 p0 k) o (lay ops (fixed qs vs) a k) W (fun v W' => holdsOf p v W' ∧ (k = p0 → E (lay ops (fixed qs vs) a k) W')) else k ≠ p0 ∧ holdsOf p undef W) := by
      cases p with
      | inl v =>
        unfold wpPartsM at h
        obtain ⟨⟨hne, h1⟩, h2⟩ := h
        have e : fixed qs vs k = v := by unfold fixed; rw [hp]
        refine ⟨X, fun _ => rfl, fun e => absurd e hne, by rw [facts, allocs, hp, lay, hb, e]; exact h2, (fun R hR => by cases hR), fun W hW hW2 hn => ?_⟩
        split
        · rename_i hw; rw [if_pos hw] at h1
          exact (h1 W hW hn).mono fun u W' hu => ⟨hu, fun e => absurd e hne⟩
        · rename_i hw; rw [if_neg hw] at h1; exact ⟨hne, h1⟩
      | inr R =>
        unfold wpPartsM at h
        obtain ⟨⟨h1, h3, h4⟩, h2⟩ := h
        have e : fixed qs vs k = vs k := by unfold fixed; rw [hp]
        refine ⟨if k = p0 then E (lay ops (fixed qs vs) a k) else X, fun hn => if_neg hn, fun he => if_pos he, ?_, (fun R' hR => by cases hR; exact h1), fun W hW hW2 hn => by rw [if_pos h3]; exact h4 W hW hW2 hn⟩
        have := h2 (vs k)
        have ho : isAlloc ops k = allocB o := by unfold isAlloc; rw [h0]
        rw [facts, allocs, hp, lay, hb, e]
        simp only [ho]
        cases hd : o.dst <;> simpa [hd] using this
    obtain ⟨X', hX1, hX2, k1, k2, k3⟩ := key
    obtain ⟨r1, r2, r3⟩ := rest X' k1
    have hl' : k + (p :: ps).length = k + 1 + ps.length := by simp; omega
    refine ⟨fun i h1 h2 => ?_, fun i R h1 h2 hR => ?_, fun W hW he hx hk hnd => ?_⟩
    · by_cases e : i = k
      · subst e; exact ⟨o, h0, by rw [hp]; exact k3⟩
      · exact r1 i (by omega) (by omega)
    · by_cases e : i = k
      · subst e; exact k2 R (by rw [← hp, hR])
      · exact r2 i R (by omega) (by omega) hR
    · rw [hl'] at he hx hk hnd ⊢
      have := r3 W hW he (by
        by_cases e : k = p0
        · rw [if_pos (by omega), hX2 e]
          rw [if_neg (by omega)] at hx
          rw [e] at hx ⊢
          exact hx (by omega)
        · rw [hX1 e]
          by_cases e2 : p0 < k
          · rw [if_pos (by omega)]; rwa [if_pos e2] at hx
          · rw [if_neg (by omega)]; rwa [if_neg e2] at hx) (by omega) hnd
      simpa using this

/-- **A region that draws its order**, walked in the order of the text; operation p0 stores as K0 says; E: what is then known, of what p0 looks at. -/
theorem wp_region_seqM (K0 : World → World → Prop) (g : Goes K0) (p0 : Nat) (E : Act → World → Prop) {id : Nat} {l : List Oper} {Q : Exit → Act → World → Prop} {a : Act} {w : World} (ps : List Piece) (hm : P.follows .mixedOrders = true) (hB : partsB l.toArray ps.length = true) (hp : p0 < ps.length)
    (hsz : ∀ W W', K0 W W' → W.heap.size ≤ W'.heap.size) (hE1 : ∀ a W W', E a W → Below W.heap.size W W' → E a W') (hE2 : ∀ o a a' W, l.toArray[p0]? = some o → (∀ t ∈ o.looksAt l.toArray, a.tmps[t]? = a'.tmps[t]?) → E a W → E a' W)
    (h : wpPartsM P K0 p0 E l.toArray w Q 0 l ps [] (fun _ => True) [] a) : (Code.region id l.toArray true).wp P Q a w := by
  have hn : ps.length ≤ l.length := by
    simp only [partsB, Bool.and_eq_true, decide_eq_true_eq] at hB
    simpa using hB.1.1.2
  have spec := fun vs => parts_specM (P := P) (K0 := K0) (E := E) (p0 := p0) (ops := l.toArray) (w := w) (Q := Q) (a := a) (qs := fun i => (ps[i]?).getD (.inl undef)) vs l ps 0 _ (fun j => by simp) (fun j p hj => by simp [hj]) hn h
  refine wp_region_partsM (K0 := K0) (p0 := p0) (E := E) g hsz hE1 hE2 ps.length (fun i => (ps[i]?).getD (.inl undef)) hm hB ?_ ?_ ?_
  · intro j R hj
    by_cases hlt : j < ps.length
    · exact (spec (fun _ => undef)).2.1 j R (by omega) (by omega) hj
    · have : ps[j]? = none := by simp; omega
      simp [this] at hj
  · intro vs i hi
    unfold stepForM
    obtain ⟨o, ho, hs⟩ := (spec vs).1 i (by omega) (by omega)
    rw [ho]
    intro W hW hW2 hd
    have hs := hs W hW hW2 (near_of hd)
    have looks : ∀ t ∈ o.looksAt l.toArray, (lay l.toArray (fixed (fun i => (ps[i]?).getD (.inl undef)) vs) a i).tmps[t]? = (lay l.toArray vs a i).tmps[t]? := by
      intro t ht
      rw [lay_get, lay_get]
      unfold slotOf
      cases hc : lastW l.toArray (fun _ => true) t i with
      | none => rfl
      | some j =>
        obtain ⟨c1, _, c3, _⟩ := lastW_some hc
        simp only
        rw [fixed_eq (depsHold_get hd j t c1 c3 ht)]
    rw [wanted_congr looks] at hs
    simp only
    split
    · rename_i hw; rw [if_pos hw] at hs
      have hs := hs.of_eval (exec_congr (fun cs b => Region.noSelect_spec (by simp only [partsB, Bool.and_eq_true] at hB; exact hB.1.1.1.1.1) i o cs b ho) (fun t ht => (looks t ht).symm))
      exact hs.mono fun v W' hv => ⟨hv.1, fun e => by subst e; exact hE2 o _ _ _ ho looks (hv.2 rfl)⟩
    · rename_i hw; rw [if_neg hw] at hs; exact hs
  · intro vs W hW hall hEp hap
    have e : ∀ m, m ≤ ps.length → lay l.toArray (fixed (fun i => (ps[i]?).getD (.inl undef)) vs) a m = lay l.toArray vs a m := fun m hmm => act_ext (fun t => by
      rw [lay_get, lay_get]
      unfold slotOf
      cases hc : lastW l.toArray (fun _ => true) t m with
      | none => rfl
      | some j =>
        obtain ⟨c1, _, _, _⟩ := lastW_some hc
        simp only
        rw [fixed_eq (allHold_get hall j (by omega))]) (by rw [lay_defers, lay_defers])
    have := (spec vs).2.2 W hW (every_of (by simpa using hall)) (by rw [if_neg (by omega), e p0 (by omega)]; intro _; exact hEp hp) (.inr (by omega)) (allocs_nodup hap (by omega))
    rw [Nat.zero_add, e _ (Nat.le_refl _)] at this
    exact this
end
section
variable {P : Program} {ops : Array Oper} {w : World} {Q : Exit → Act → World → Prop} {o : Oper} {os : List Oper} {ps : List Piece} {G : List (Tmp × (World → Prop))} {a : Act} {K0 : World → World → Prop} {E : Act → World → Prop} {X : World → Prop} {A : List Value} {p0 k : Nat}
/-- One operation, whose value is known. -/
theorem wpPartsM_det {v : Value} (hk : k ≠ p0) (hw : Region.wanted o (yielded ops a.tmps) = true) (h : ∀ W, K0 w W → near ops o G W → Gives P o a W (fun u _ => u = v))
    (hr : wpPartsM P K0 p0 E ops w Q (k + 1) os ps G X A (a.put o.dst v)) : wpPartsM P K0 p0 E ops w Q k (o :: os) (.inl v  :: ps) G X A a := by
  unfold wpPartsM
  rw [if_pos hw]
  exact ⟨⟨hk, fun W h1 h2 => gives_rel hk (h W h1 h2)⟩, hr⟩
/-- One operation that is not carried out. -/
theorem wpPartsM_skip (hk : k ≠ p0) (hw : Region.wanted o (yielded ops a.tmps) = false)
    (hr : wpPartsM P K0 p0 E ops w Q (k + 1) os ps G X A (a.put o.dst undef)) : wpPartsM P K0 p0 E ops w Q k (o :: os) (.inl undef  :: ps) G X A a := by
  unfold wpPartsM
  rw [if_neg (by rw [hw]; exact Bool.false_ne_true)]
  exact ⟨⟨hk, rfl⟩, hr⟩
/-- One operation of whose value something is known. -/
theorem wpPartsM_any {d : Tmp} {R : Value → World → Prop} (hk : k ≠ p0) (hd : o.dst = some d) (hst : ∀ v W W', R v W → Below W.heap.size W W' → R v W') (hst2 : ∀ v W W', R v W → K0 W W' → R v W') (hw : Region.wanted o (yielded ops a.tmps) = true)
    (h : ∀ W, K0 w W → near ops o G W → Gives P o a W R) (hr : ∀ u, wpPartsM P K0 p0 E ops w Q (k + 1) os ps ((d, R u) :: G) X (if allocB o then u :: A else A) (a.put (some d) u)) : wpPartsM P K0 p0 E ops w Q k (o :: os) (.inr R  :: ps) G X A a := by
  unfold wpPartsM
  refine ⟨⟨⟨hst, fun _ => hst2⟩, hw, fun W h1 _ h2 => gives_rel hk ((h W h1 h2).mono fun _ _ hv => ⟨hv, fun e => absurd e hk⟩)⟩, fun u => ?_⟩
  simp only [hd, if_neg hk]
  exact hr u
/-- The one operation that stores. -/
theorem wpPartsM_writes (hk : k = p0) (hna : allocB o = false) (hd : o.dst = none) (hw : Region.wanted o (yielded ops a.tmps) = true)
    (h : ∀ W, Below w.heap.size w W → near ops o G W → GivesK P K0 o a W (fun _ W' => E a W')) (hr : wpPartsM P K0 p0 E ops w Q (k + 1) os ps G (E a) A a) : wpPartsM P K0 p0 E ops w Q k (o :: os) (.inr (fun _ _ => True)  :: ps) G X A a := by
  unfold wpPartsM
  refine ⟨⟨⟨fun _ _ _ h _ => h, fun hn => absurd hk hn⟩, hw, fun W _ h0 h2 => gives_relW hk ((h W (h0 hk) h2).mono fun _ _ hv => ⟨trivial, fun _ => hv⟩)⟩, fun u => ?_⟩
  simp only [hd, if_pos hk, hna]
  exact hr
theorem wpPartsM_end (h : ∀ W, K0 w W → every G W → X W → A.Nodup → wpList P ops Q os a W) : wpPartsM P K0 p0 E ops w Q k os [] G X A a := by
  cases os <;> (unfold wpPartsM; exact h)
end
end Go.Dav
