/-
  Layer 4: a value, if it may be; a row of pairs sorted, whatever it is; walked.
  A region that draws its order, several of whose operations write into memory that was there, each into its own; the facts of the others hold in whatever order.
  Layer 4: an object of pairs, walked: the program's.
-/
import Derived.Test.YtmcmknndhppljaaDoorVbD
import Derived.Test.YtmcmknndhppljaaDoorVbI
import Derived.Test.YtmcmknndhppljaaDoorVbJ
import Derived.Maps.AppendAt
namespace Go.Dav
set_option linter.unusedVariables false
set_option linter.unusedSimpArgs false
open Go Go.RowKit
/-- What whole answers. -/
def wholeV (b : Bool) (v : Value) : Value := if b = true then .tuple #[v, .int .i64 0] else .tuple #[.agg #[.int .i64 0, .int .i64 0, .string ⟨#[]⟩, .slice none 0 0, .slice none 0 0], .int .i64 140]
def RowOk (W : World) (B : Nat) (ra : Option Addr) (m : List PairE) (t : TypeId) : Prop := m = [] ∨ ∃ g, ra = some ⟨g, 0, none⟩ ∧ B ≤ g ∧ PairsAt W g m t
theorem RowOk.ext {W W' : World} {B : Nat} {ra : Option Addr} {m : List PairE} {t : TypeId} (h : RowOk W B ra m t) (hb : Below W.heap.size W W') : RowOk W' B ra m t := h.imp id fun ⟨g, h1, h2, h3⟩ => ⟨g, h1, h2, h3.ext hb⟩
theorem SortedS.one {l : List PairE} (h : l.length ≤ 1) : SortedS l 0 l.length := fun i j x y _ h1 h2 hx hy => by
  obtain rfl : i = j := by omega
  rw [hx] at hy; cases hy; exact kle_refl _
end Go.Dav
namespace Go.Proofs.YtmcmknndhppljaaDoor
set_option linter.unusedVariables false
set_option linter.unusedSimpArgs false
open Go.RowKit Go.Dav
attribute [local go_sem] Gives ite_val ite_val_true

set_option maxRecDepth 8000 in
set_option maxHeartbeats 2000000 in
theorem Tryd_whole (d : Nat) (x : ValN d) (kind n : Int) (s : ByteArray) (ka : Option Addr) (kl kc : Nat) (qa : Option Addr) (ql qc : Nat) (w : World) (hv : ValAt w d (.agg #[.int .i64 kind, .int .i64 n, .string s, .slice ka kl kc, .slice qa ql qc]) x) (hN : GlobAt w 0 [.int .i64 0, .int .i64 0] 143) :
    Calls Tryd.prog 51 #[.agg #[.int .i64 kind, .int .i64 n, .string s, .slice ka kl kc, .slice qa ql qc]] w fun e w' => e = .returned (wholeV (rightV d x) (.agg #[.int .i64 kind, .int .i64 n, .string s, .slice ka kl kc, .slice qa ql qc])) ∧ Below w.heap.size w w' := by
  obtain ⟨r, hr⟩ : ∃ r, rightV d x = r := ⟨_, rfl⟩
  obtain ⟨W0, hW0⟩ : ∃ W0, (w.alloc (.cells #[.int .i64 kind, .int .i64 n, .string s, .slice ka kl kc, .slice qa ql qc] 39)).alloc (.cells #[.int .i64 0, .int .i64 0, .string ⟨#[]⟩, .slice none 0 0, .slice none 0 0] 39) = W0 := ⟨_, rfl⟩
  have bel0 : Below w.heap.size w W0 := by rw [← hW0]; exact (by repeat (first | (with_reducible exact Below.refl _ _) | (with_reducible exact Below.refl _ _) | (with_reducible refine Below.setCell ?_ (by first | omega | (simp; done) | (simp; omega)) _) | (with_reducible refine Below.alloc ?_ (by first | omega | (simp; done) | (simp; omega)) _) | (with_reducible refine Below.drew ?_) | (with_reducible refine below_drewN ?_ _)))
  have hb1 : Blk W0 w.heap.size [.int .i64 kind, .int .i64 n, .string s, .slice ka kl kc, .slice qa ql qc] 39 := by rw [← hW0]; exact (Blk.new _ _ _).alloc _
  have hb2 : Blk W0 (w.heap.size + 1) [.int .i64 0, .int .i64 0, .string ⟨#[]⟩, .slice none 0 0, .slice none 0 0] 39 := by rw [← hW0]; exact Blk.new' _ _ _ (by simp)
  have hc := Tryd_vCheck d x _ W0 (ValAt.ext bel0 _ hv) (hN.ext bel0)
  rw [hr] at hc ⊢
  have HC := Lib.hid hc
  have BEL := Lib.hid bel0
  have HB1 := Lib.hid hb1
  have HB2 := Lib.hid hb2
  subst hW0
  clear hc hr hv hN bel0 hb1 hb2
  go_enter Tryd.func51, Tryd.ntmps51
  go_wp2_with fail
  refine HC.out.mono ?_; rintro e w1 ⟨rfl, hbw⟩
  have hq1 := HB1.out.ext hbw
  have hq2 := HB2.out.ext hbw
  have q1 := hq1.cells
  have l1 := hq1.lt
  have q2 := hq2.cells
  have m2 := hq2.marks
  have l2 := hq2.lt
  have HQ2 := Lib.hid hq2
  have HBW := Lib.hid (BEL.out.trans (hbw.mono BEL.out.size))
  clear hq1 hq2 hbw HC
  cases r with
  | true =>
    rw [show valE true = 0 from rfl]
    go_wp2
    have c4 := (HQ2.out.fiveV (.int .i64 (kind)) (.int .i64 (n)) (.string s) (.slice ka kl kc) (.slice qa ql qc)).cells
    refine bodyPost_ret (v := .tuple #[.agg #[.int .i64 (kind), .int .i64 (n), .string s, .slice ka kl kc, .slice qa ql qc], .int .i64 0]) (by simp [results, Tryd.results51, go_sem, c4]) rfl ⟨rfl, ?_⟩
    exact below_only HBW.out (Only.fiveV _ _ _ _ _ _ _) HBW.out.size (by omega)
  | false =>
    rw [show valE false = 140 from rfl]
    go_wp2
    have c4 := (HQ2.out.fiveV (.int .i64 (0)) (.int .i64 (0)) (.string ⟨#[]⟩) (.slice none 0 0) (.slice none 0 0)).cells
    refine bodyPost_ret (v := .tuple #[.agg #[.int .i64 (0), .int .i64 (0), .string ⟨#[]⟩, .slice none 0 0, .slice none 0 0], .int .i64 140]) (by simp [results, Tryd.results51, go_sem, c4]) rfl ⟨rfl, ?_⟩
    exact below_only HBW.out (Only.fiveV _ _ _ _ _ _ _) HBW.out.size (by omega)

set_option maxHeartbeats 1000000 in
theorem Tryd_insertNone (w : World) : Calls Tryd.prog 94 #[.slice none 0 0, .int .i64 0, .int .i64 0, .func (.func 56) #[] #[]] w fun e w' => e = .returned (.tuple #[]) ∧ Below w.heap.size w w' := by
  go_enter Tryd.func94, Tryd.ntmps94
  go_wp2_with fail
  refine wp_loop_rounds 1 ?_
  rw [rounds_succ]
  go_wp2
  go_end0
  exact ⟨rfl, (by repeat (first | (with_reducible exact Below.refl _ _) | (with_reducible exact Below.refl _ _) | (with_reducible refine Below.setCell ?_ (by first | omega | (simp; done) | (simp; omega)) _) | (with_reducible refine Below.alloc ?_ (by first | omega | (simp; done) | (simp; omega)) _) | (with_reducible refine Below.drew ?_) | (with_reducible refine below_drewN ?_ _)))⟩
set_option maxHeartbeats 1000000 in
theorem Tryd_sortNone (w : World) : Calls Tryd.prog 55 #[.slice none 0 0, .func (.func 56) #[] #[]] w fun e w' => e = .returned (.tuple #[]) ∧ Below w.heap.size w w' := by
  have HC : Calls Tryd.prog 76 #[.slice none 0 0, .int .i64 0, .func (.func 56) #[] #[]] w fun e w' => e = .returned (.tuple #[]) ∧ Below w.heap.size w w' := by
    go_enter Tryd.func76, Tryd.ntmps76
    go_wp2_with fail
    refine wp_loop_rounds 1 ?_
    rw [rounds_succ]
    go_wp2_with fail
    refine (Tryd_insertNone _).mono ?_; rintro e w1 ⟨rfl, hb1⟩
    go_wp2_with fail
    refine wp_loop_rounds 1 ?_
    rw [rounds_succ]
    go_wp2
    go_end0
    exact ⟨rfl, (by repeat (first | (with_reducible exact Below.refl _ _) | (with_reducible exact Below.refl _ _) | (with_reducible refine Below.setCell ?_ (by first | omega | (simp; done) | (simp; omega)) _) | (with_reducible refine Below.alloc ?_ (by first | omega | (simp; done) | (simp; omega)) _) | (with_reducible refine Below.drew ?_) | (with_reducible refine below_drewN ?_ _) | (with_reducible refine Below.trans ?_ (hb1.mono (by first | omega | (simp; done) | (simp; omega))))))⟩
  go_enter Tryd.func55, Tryd.ntmps55
  go_wp2_with fail
  refine HC.mono ?_; rintro e w1 ⟨rfl, hb1⟩
  go_wp2
  go_end0
  exact ⟨rfl, (by repeat (first | (with_reducible exact Below.refl _ _) | (with_reducible exact Below.refl _ _) | (with_reducible refine Below.setCell ?_ (by first | omega | (simp; done) | (simp; omega)) _) | (with_reducible refine Below.alloc ?_ (by first | omega | (simp; done) | (simp; omega)) _) | (with_reducible refine Below.drew ?_) | (with_reducible refine below_drewN ?_ _) | (with_reducible refine Below.trans ?_ (hb1.mono (by first | omega | (simp; done) | (simp; omega))))))⟩

theorem Tryd_sortAny (B n rc : Nat) (ra : Option Addr) (l : List PairE) (w : World) (hown : w.ownsRow B 56 6 (.slice ra n rc) n (flatE l)) (hB : B ≤ w.heap.size) (hn : n ≤ sortMost) :
    Calls Tryd.prog 55 #[.slice ra n rc, .func (.func 56) #[] #[]] w fun e w' => e = .returned (.tuple #[]) ∧ ∃ m, m.length = n ∧ m.Perm l ∧ SortedS m 0 n ∧ RowOk w' B ra m 56 ∧ Below B w w' := by
  rcases Tryd_pairs_own hown with ⟨h1, rfl, rfl⟩ | ⟨g, c, h1, hg, hnc, hc, hl, hp⟩
  · cases h1
    refine (Tryd_sortNone w).mono ?_
    rintro e w' ⟨rfl, hb⟩
    exact ⟨rfl, [], rfl, List.Perm.refl _, SortedS.one (by simp), .inl rfl, hb.mono hB⟩
  · cases h1
    refine (Tryd_sortStable g n _ l w hl hn hnc hp).mono ?_
    rintro e w' ⟨rfl, m, ⟨hs, ho⟩, hpm, hon⟩
    exact ⟨rfl, m, hs.len.trans hl, hs.perm, ho, .inr ⟨g, rfl, hg, hpm⟩, hon.below hB (fun k e => by subst e; exact hg)⟩
end Go.Proofs.YtmcmknndhppljaaDoor

namespace Go.Dav
set_option linter.unusedVariables false
set_option linter.unusedSimpArgs false
open Go Go.RowKit

/-- What each operation may write (rel), what all others than it do (oth), and what all do (all). -/
structure Fam where
  all : World → World → Prop
  rel : Nat → World → World → Prop
  oth : Nat → World → World → Prop
  gall : Goes all
  grel : ∀ i, Goes (rel i)
  goth : ∀ i, Goes (oth i)
  le : ∀ i W W', rel i W W' → all W W'
  leo : ∀ i j, i ≠ j → ∀ W W', rel i W W' → oth j W W'

section
variable {P : Program} {ops : Array Oper} {F : Fam}

structure MidN (F : Fam) (ops : Array Oper) (n : Nat) (ps : Nat → Value ⊕ (Value → World → Prop)) (a0 : Act) (w0 : World) (listed : Array Bool) (vs : Nat → Value) (a : Act) (W : World) : Prop where
  ext : F.all w0 W
  ext2 : ∀ j, listed.getD j false = false → F.oth j w0 W
  size : a.tmps.size = a0.tmps.size
  defers : a.defers = a0.defers
  slots : ∀ t : Nat, a.tmps[t]? = slotOf ops (fun j => listed.getD j false) vs a0 n t
  held : ∀ j, j < n → listed.getD j false = true → holdsOf (ps j) (vs j) W

def stepForN (P : Program) (F : Fam) (ops : Array Oper) (ps : Nat → Value ⊕ (Value → World → Prop)) (a0 : Act) (w0 : World) (vs : Nat → Value) (i : Nat) : Prop :=
  match ops[i]? with
  | none => True
  | some o => ∀ W, F.all w0 W → F.oth i w0 W → depsHold ops ps vs o W i →
      if Region.wanted o (yielded ops (lay ops vs a0 i).tmps) then GivesK P (F.rel i) o (lay ops vs a0 i) W (holdsOf (ps i)) else holdsOf (ps i) undef W

/-- What is laid of an operation stays. -/
def staysN (F : Fam) (j : Nat) (R : Value → World → Prop) : Prop := ∀ i, i ≠ j → ∀ v W W', R v W → F.rel i W W' → R v W'
theorem staysN.step {j i : Nat} {R : Value → World → Prop} (h : staysN F j R) (hne : j ≠ i) {v : Value} {W W' : World} (hR : R v W) (hr : F.rel i W W') : R v W' := h i (Ne.symm hne) v W W' hR hr

theorem mid_stepN {n : Nat} {ps : Nat → Value ⊕ (Value → World → Prop)} {a0 : Act} {w0 : World} {listed : Array Bool} {vs : Nat → Value} {a : Act} {W : World} {Q : Exit → Act → World → Prop}
    (hB : tidyB ops n = true) (hsel : Region.noSelect ops = true) (hst : ∀ j R, ps j = .inr R → staysN F j R)
    (hop : ∀ vs i, i < n → stepForN P F ops ps a0 w0 vs i) (inv : HeadInv .any ops n listed) (mid : MidN F ops n ps a0 w0 listed vs a W)
    {i : Nat} (hr : i ∈ Region.ready .any ops listed) (hin : i < n) {K : Act → World → Prop}
    (hk : ∀ vs a W, HeadInv .any ops n (listed.setIfInBounds i true) → MidN F ops n ps a0 w0 (listed.setIfInBounds i true) vs a W → K a W) : wpOp P ops Q i K a W := by
  obtain ⟨hun, oi, hoi, hall⟩ := mem_ready.1 hr
  have hunf : listed.getD i false = false := getD_both hun
  have hisz : i < listed.size := by rw [inv.size]; exact (Array.getElem?_eq_some_iff.1 hoi).1
  -- what a listed operation has to do with i
  have later : ∀ j oj d, j < n → ops[j]? = some oj → oj.dst = some d → listed.getD j false = true → (d ∈ oi.looksAt ops ∨ oi.dst = some d) → j < i := by
    intro j oj d hj hoj hd hl hlook
    have hji : i ≠ j := fun e => by subst e; rw [hunf] at hl; cases hl
    obtain ⟨_, h1, _⟩ := tidy_spec hB hin hj hoi hoj hd (hlook.imp id fun h => ⟨h, hji⟩)
    rcases Nat.lt_trichotomy i j with h | h | h
    · obtain ⟨oj', hoj', e, he, hb, hon⟩ := Region.waitsFor_spec (h1 h)
      have := inv.closed j oj' hoj' hl e he hb
      rw [hon, hunf] at this
      cases this
    · exact absurd h hji
    · exact h
  have early : ∀ j oj d, j < i → ops[j]? = some oj → oj.dst = some d → (d ∈ oi.looksAt ops) → listed.getD j false = true := by
    intro j oj d hj hoj hd hlook
    obtain ⟨_, _, h2⟩ := tidy_spec hB hin (by omega) hoi hoj hd (.inl hlook)
    obtain ⟨oi', hoi', e, he, hb, hon⟩ := Region.waitsFor_spec (h2 hj)
    have : oi' = oi := Option.some.inj (hoi'.symm.trans hoi)
    subst this
    have := hall e he hb
    rwa [hon] at this
  have looks : ∀ t ∈ oi.looksAt ops, (lay ops vs a0 i).tmps[t]? = a.tmps[t]? := by
    intro t ht
    rw [lay_get, mid.slots t]
    unfold slotOf
    rw [lastW_eq (ops := ops) (t := t) (p := fun _ => true) (q := fun j => listed.getD j false) (m := i) (n := n) ?_]
    intro j
    constructor
    · rintro ⟨h1, _, h3⟩
      obtain ⟨oj, hoj, hd⟩ := Option.bind_eq_some_iff.1 h3
      exact ⟨by omega, early j oj t h1 hoj hd ht, h3⟩
    · rintro ⟨h1, h2, h3⟩
      obtain ⟨oj, hoj, hd⟩ := Option.bind_eq_some_iff.1 h3
      exact ⟨later j oj t h1 hoj hd h2 (.inl ht), rfl, h3⟩
  have hdeps : depsHold ops ps vs oi W i := depsHold_of i fun j d hj hd hl => by
    obtain ⟨oj, hoj, hd'⟩ := Option.bind_eq_some_iff.1 hd
    exact mid.held j (by omega) (early j oj d hj hoj hd' hl)
  have hs := hop vs i hin
  unfold stepForN at hs
  simp only [hoi] at hs
  have hs := hs W mid.ext (mid.ext2 i hunf) hdeps
  rw [wanted_congr looks] at hs
  have next : ∀ v W', F.rel i W W' → holdsOf (ps i) v W' → K (a.put oi.dst v) W' := by
    intro v W' hb hv
    refine hk (fun j => if j = i then v else vs j) _ W' (inv.set hr hin) ⟨F.gall.trans _ _ _ mid.ext (F.le i _ _ hb), fun j hp0 => ?_, by rw [put_size, mid.size], by rw [put_defers, mid.defers], fun t => ?_, fun j hj hl => ?_⟩
    · have hne : j ≠ i := fun e => by subst e; simp [hisz] at hp0
      exact (F.goth j).trans _ _ _ (mid.ext2 j (by rwa [getD_set_ne false (Ne.symm hne)] at hp0)) (F.leo i j (Ne.symm hne) _ _ hb)
    · rw [put_get, mid.size]
      unfold slotOf
      by_cases hd : oi.dst = some t
      · simp only [hd, if_true]
        have : lastW ops (fun j => (listed.setIfInBounds i true).getD j false) t n = some i := by
          cases hc : lastW ops (fun j => (listed.setIfInBounds i true).getD j false) t n with
          | none => exact absurd ⟨by simp [hisz], by simp [hoi, hd]⟩ (lastW_none hc i hin)
          | some j =>
            obtain ⟨c1, c2, c3, c4⟩ := lastW_some hc
            obtain ⟨oj, hoj, hdj⟩ := Option.bind_eq_some_iff.1 c3
            by_cases e : j = i
            · rw [e]
            · have hlj : listed.getD j false = true := by rwa [getD_set_ne false (Ne.symm e)] at c2
              have := later j oj t c1 hoj hdj hlj (.inr hd)
              exact absurd ⟨by simp [hisz], by simp [hoi, hd]⟩ (c4 i this hin)
        rw [this]
        simp
      · simp only [hd, if_false]
        rw [mid.slots t]
        unfold slotOf
        have : lastW ops (fun j => (listed.setIfInBounds i true).getD j false) t n = lastW ops (fun j => listed.getD j false) t n := by
          refine lastW_eq fun j => ?_
          by_cases e : j = i
          · subst e; simp [hoi, hd]
          · rw [getD_set_ne false (Ne.symm e)]
        rw [this]
        cases hc : lastW ops (fun j => listed.getD j false) t n with
        | none => rfl
        | some j =>
          obtain ⟨c1, c2, c3, c4⟩ := lastW_some hc
          have e : j ≠ i := fun e => by subst e; simp [hoi, hd] at c3
          simp [e]
    · by_cases e : j = i
      · subst e; simpa using hv
      · simp only [e, if_false]
        have hl' : listed.getD j false = true := by rwa [getD_set_ne false (Ne.symm e)] at hl
        have h1 := mid.held j hj hl'
        cases hp : ps j with
        | inl u => simpa [hp, holdsOf] using h1
        | inr R => simp only [hp, holdsOf] at h1 ⊢; exact (hst j R hp).step e h1 hb
  unfold wpOp
  simp only [hoi]
  split
  · rename_i hw
    simp only [hw, if_true] at hs
    exact .inl (wp_of_givesK (F.grel i) (hs.of_eval (exec_congr (fun cs b => Region.noSelect_spec hsel i oi cs b hoi) (fun t ht => (looks t ht).symm))) next)
  · rename_i hw
    simp only [hw] at hs
    exact next _ _ ((F.grel i).bel _ _ (Below.refl _ _)) (by simpa using hs)


theorem wpAny_of_midN {n : Nat} {ps : Nat → Value ⊕ (Value → World → Prop)} {a0 : Act} {w0 : World} {Q : Exit → Act → World → Prop} {l : List Oper}
    (hl : ∀ j : Nat, l[j]? = ops[n + j]?) (hll : l.length = ops.size - n)
    (hB : partsB ops n = true) (hst : ∀ j R, ps j = .inr R → staysN F j R)
    (hop : ∀ vs i, i < n → stepForN P F ops ps a0 w0 vs i)
    (hend : ∀ vs W, F.all w0 W → allHold ps vs W n → wpList P ops Q l (lay ops vs a0 n) W) :
    ∀ (f : Nat) (listed : Array Bool) (vs : Nat → Value) (a : Act) (W : World), HeadInv .any ops n listed → MidN F ops n ps a0 w0 listed vs a W → cnt listed n = f →
      wpAny P .any ops Q (f + (ops.size - n)) listed a W := by
  simp only [partsB, Bool.and_eq_true, decide_eq_true_eq] at hB
  obtain ⟨⟨⟨⟨⟨hsel, htidy⟩, hback⟩, hn⟩, htail0⟩, hseq⟩ := hB
  have htail : n = ops.size ∨ (Region.sinkB .any ops n = true ∧ Region.chainB .any ops n = true) := by simpa using htail0
  intro f
  induction f with
  | zero =>
    intro listed vs a W inv mid hc
    have hall := cnt_zero listed n hc
    have hlisted : listed = (Array.range ops.size).map fun j => decide (j < n) := by
      apply Array.ext
      · simp [inv.size]
      · intro j h1 h2
        simp only [Array.getElem_map, Array.getElem_range]
        by_cases hj : j < n
        · have := hall j hj
          simp only [h1, Array.getD_eq_getD_getElem?, Array.getElem?_eq_getElem, Option.getD_some] at this
          simp [hj, this]
        · have := getD_both (inv.tail j (by omega) (by simpa using h2))
          simp only [h1, Array.getD_eq_getD_getElem?, Array.getElem?_eq_getElem, Option.getD_some] at this
          simp [hj, this]
    have ha : a = lay ops vs a0 n := act_ext (fun t => by
      rw [lay_get, mid.slots t]
      unfold slotOf
      rw [lastW_eq (ops := ops) (t := t) (p := fun j => listed.getD j false) (q := fun _ => true) (m := n) (n := n) ?_]
      intro j
      constructor
      · rintro ⟨h1, _, h3⟩; exact ⟨h1, rfl, h3⟩
      · rintro ⟨h1, _, h3⟩; exact ⟨h1, hall j h1, h3⟩) (by rw [mid.defers, lay_defers])
    have h := hend vs W mid.ext (allHold_of n fun j hj => mid.held j hj (hall j hj))
    rw [Nat.zero_add, ← hll]
    rw [← hlisted, ← hll] at hseq
    rw [ha]
    exact wpAny_of_seq l n listed _ W hl hseq h
  | succ f ih =>
    intro listed vs a W inv mid hc
    obtain ⟨i0, hi0, hu0, hlow⟩ := least_unlisted listed n (by omega)
    rw [show f + 1 + (ops.size - n) = (f + (ops.size - n)) + 1 by omega]
    refine ⟨fun h => ?_, fun i hi => ?_⟩
    · exfalso
      have h1 := List.all_eq_true.1 hback i0 (List.mem_range.2 hi0)
      cases ho : ops[i0]? with
      | none => simp [ho] at h1
      | some o =>
        simp only [ho] at h1
        have : i0 ∈ Region.ready .any ops listed := by
          refine mem_ready.2 ⟨getD_in (by rw [inv.size]; omega) hu0, o, ho, fun e he hb => ?_⟩
          have h2 := Array.all_eq_true'.1 h1 e he
          simp only [hb, Bool.not_true, Bool.false_or, decide_eq_true_eq] at h2
          exact hlow e.on h2
        rw [h] at this
        cases this
    · have hin : i < n := by
        rcases Nat.lt_or_ge i n with h | h
        · exact h
        · rcases htail with ht | ht
          · obtain ⟨_, o, ho, _⟩ := mem_ready.1 hi
            have := (Array.getElem?_eq_some_iff.1 ho).1
            omega
          · rcases Nat.lt_or_ge n ops.size with hns | hns
            · exact absurd hi (tail_waits ht.1 ht.2 hns inv _ i0 rfl hi0 (getD_in (by rw [inv.size]; omega) hu0) i h)
            · obtain ⟨_, o, ho, _⟩ := mem_ready.1 hi
              have := (Array.getElem?_eq_some_iff.1 ho).1
              omega
      have hun := (mem_ready.1 hi).1
      refine mid_stepN htidy hsel hst hop inv mid hi hin fun vs' a' W' inv' mid' => ih _ vs' a' W' inv' mid' ?_
      have := cnt_set listed i (by rw [inv.size]; omega) (getD_both hun) n hin
      omega

theorem wp_region_partsN {id : Nat} {ops : List Oper} {Q : Exit → Act → World → Prop} {a : Act} {w : World} (n : Nat) (ps : Nat → Value ⊕ (Value → World → Prop)) (hm : P.follows .mixedOrders = true) (hB : partsB ops.toArray n = true)
    (hst : ∀ j R, ps j = .inr R → staysN F j R)
    (hop : ∀ vs i, i < n → stepForN P F ops.toArray ps a w vs i)
    (hend : ∀ vs W, F.all w W → allHold ps vs W n → wpList P ops.toArray Q (ops.drop n) (lay ops.toArray vs a n) W) : (Code.region id ops.toArray true).wp P Q a w := by
  have hn : n ≤ ops.toArray.size := by
    simp only [partsB, Bool.and_eq_true, decide_eq_true_eq] at hB
    exact hB.1.1.2
  have he : F.all w { w with drawn := w.drawn + 1 } := F.gall.bel _ _ (Below.refl _ _).drew
  have hc : ∀ m, cnt (Array.replicate ops.toArray.size false) m = m := fun m => by
    induction m with
    | zero => rfl
    | succ m ih => rw [cnt, ih, getD_replicate_false]; rfl
  refine wp_region_any hm ?_
  have := wpAny_of_midN (P := P) (ops := ops.toArray) (l := ops.drop n) (fun j => by simp [List.getElem?_drop]) (by simp) hB hst hop hend n (Array.replicate ops.toArray.size false) (fun _ => undef) a { w with drawn := w.drawn + 1 }
    ⟨by simp, fun j oj _ hl => (by rw [getD_replicate_false] at hl; cases hl), fun t _ ht => getD_in (by simpa using ht) (getD_replicate_false _ _)⟩
    ⟨he, fun j _ => (F.goth j).bel _ _ (Below.refl _ _).drew, rfl, rfl, fun t => ?_, fun j _ hl => (by rw [getD_replicate_false] at hl; cases hl)⟩ (hc n)
  · rwa [show n + (ops.toArray.size - n) = ops.toArray.size by omega] at this
  · unfold slotOf
    rw [show lastW ops.toArray (fun j => (Array.replicate ops.toArray.size false).getD j false) t n = none from ?_]
    cases h : lastW ops.toArray (fun j => (Array.replicate ops.toArray.size false).getD j false) t n with
    | none => rfl
    | some j => have := (lastW_some h).2.1; rw [getD_replicate_false] at this; cases this

end

section
variable {P : Program} {F : Fam}

/-- The walk in the order of the text; k is the next operation's number. -/
def wpPartsN (P : Program) (F : Fam) (ops : Array Oper) (w : World) (Q : Exit → Act → World → Prop) : Nat → List Oper → List Piece → List (Tmp × (World → Prop)) → Act → Prop
  | k, o :: os, .inl v :: ps, G, a =>
    (if Region.wanted o (yielded ops a.tmps) then (∀ W, F.all w W → F.oth k w W → near ops o G W → GivesK P (F.rel k) o a W (fun u _ => u = v)) else undef = v) ∧ wpPartsN P F ops w Q (k + 1) os ps G (a.put o.dst v)
  | k, o :: os, .inr R :: ps, G, a =>
    (staysN F k R ∧ Region.wanted o (yielded ops a.tmps) = true ∧ (∀ W, F.all w W → F.oth k w W → near ops o G W → GivesK P (F.rel k) o a W R)) ∧
      ∀ u, wpPartsN P F ops w Q (k + 1) os ps (match o.dst with | some d => (d, R u) :: G | none => G) (a.put o.dst u)
  | _, os, _, G, a => ∀ W, F.all w W → every G W → wpList P ops Q os a W

end

section
variable {P : Program} {ops : Array Oper} {F : Fam}

/-- What the walk in the order of the text says of each operation, and of what stands behind. -/
theorem parts_specN {w : World} {Q : Exit → Act → World → Prop} {a : Act} {qs : Nat → Piece} (vs : Nat → Value) :
    ∀ (l : List Oper) (ps : List Piece) (k : Nat), (∀ j : Nat, l[j]? = ops[k + j]?) → (∀ j p, ps[j]? = some p → qs (k + j) = p) → ps.length ≤ l.length →
      wpPartsN P F ops w Q k l ps (facts ops qs vs k) (lay ops (fixed qs vs) a k) →
      (∀ i, k ≤ i → i < k + ps.length → ∃ o, ops[i]? = some o ∧ ∀ W, F.all w W → F.oth i w W → near ops o (facts ops qs vs i) W →
        (if Region.wanted o (yielded ops (lay ops (fixed qs vs) a i).tmps) then GivesK P (F.rel i) o (lay ops (fixed qs vs) a i) W (holdsOf (qs i)) else holdsOf (qs i) undef W)) ∧
      (∀ i R, k ≤ i → i < k + ps.length → qs i = .inr R → staysN F i R) ∧
      (∀ W, F.all w W → every (facts ops qs vs (k + ps.length)) W → wpList P ops Q (l.drop ps.length) (lay ops (fixed qs vs) a (k + ps.length)) W)
  | l, [], k, _, _, _, h => by
    refine ⟨fun i h1 h2 => ?_, fun i R h1 h2 => ?_, ?_⟩
    · simp at h2; omega
    · simp at h2; omega
    · cases l <;> simpa [wpPartsN] using h
  | [], _ :: _, _, _, _, hlen, _ => by simp at hlen
  | o :: l, p :: ps, k, hl, hq, hlen, h => by
    have h0 : ops[k]? = some o := by simpa using (hl 0).symm
    have hp : qs k = p := by simpa using hq 0 p rfl
    have hb : (ops[k]?).bind (·.dst) = o.dst := by rw [h0]; rfl
    have rest := fun (h' : wpPartsN P F ops w Q (k + 1) l ps (facts ops qs vs (k + 1)) (lay ops (fixed qs vs) a (k + 1))) => parts_specN vs l ps (k + 1) (fun j => by have := hl (j + 1); simpa [Nat.add_assoc, Nat.add_comm 1 j] using this)
      (fun j q hj => by have := hq (j + 1) q (by simpa using hj); simpa [Nat.add_assoc, Nat.add_comm 1 j] using this) (by simpa using hlen) h'
    have key : wpPartsN P F ops w Q (k + 1) l ps (facts ops qs vs (k + 1)) (lay ops (fixed qs vs) a (k + 1)) ∧
        (∀ R, p = .inr R → staysN F k R) ∧
        ∀ W, F.all w W → F.oth k w W → near ops o (facts ops qs vs k) W →
          (if Region.wanted o (yielded ops (lay ops (fixed qs vs) a k).tmps) then GivesK P (F.rel k) o (lay ops (fixed qs vs) a k) W (holdsOf p) else holdsOf p undef W) := by
      cases p with
      | inl v =>
        obtain ⟨h1, h2⟩ := h
        have e : fixed qs vs k = v := by unfold fixed; rw [hp]
        refine ⟨by rw [facts, hp, lay, hb, e]; exact h2, (fun R hR => by cases hR), fun W hW hW2 hn => ?_⟩
        split
        · rename_i hw; rw [if_pos hw] at h1; exact h1 W hW hW2 hn
        · rename_i hw; rw [if_neg hw] at h1; exact h1
      | inr R =>
        obtain ⟨⟨h1, h3, h4⟩, h2⟩ := h
        have e : fixed qs vs k = vs k := by unfold fixed; rw [hp]
        refine ⟨?_, (fun R' hR => by cases hR; exact h1), fun W hW hW2 hn => by rw [if_pos h3]; exact h4 W hW hW2 hn⟩
        have := h2 (vs k)
        rw [facts, hp, lay, hb, e]
        cases hd : o.dst <;> simpa [hd] using this
    obtain ⟨r1, r2, r3⟩ := rest key.1
    have hl' : k + (p :: ps).length = k + 1 + ps.length := by simp; omega
    refine ⟨fun i h1 h2 => ?_, fun i R h1 h2 hR => ?_, ?_⟩
    · by_cases e : i = k
      · subst e; exact ⟨o, h0, by rw [hp]; exact key.2.2⟩
      · exact r1 i (by omega) (by omega)
    · by_cases e : i = k
      · subst e; exact key.2.1 R (by rw [← hp, hR])
      · exact r2 i R (by omega) (by omega) hR
    · rw [hl']; simpa using r3

/-- **A region that draws its order**, walked in the order of the text; each operation may write as F says. -/
theorem wp_region_seqN (F : Fam) {id : Nat} {l : List Oper} {Q : Exit → Act → World → Prop} {a : Act} {w : World} (ps : List Piece) (hm : P.follows .mixedOrders = true) (hB : partsB l.toArray ps.length = true)
    (h : wpPartsN P F l.toArray w Q 0 l ps [] a) : (Code.region id l.toArray true).wp P Q a w := by
  have hn : ps.length ≤ l.length := by
    simp only [partsB, Bool.and_eq_true, decide_eq_true_eq] at hB
    simpa using hB.1.1.2
  have spec := fun vs => parts_specN (P := P) (F := F) (ops := l.toArray) (w := w) (Q := Q) (a := a) (qs := fun i => (ps[i]?).getD (.inl undef)) vs l ps 0 (fun j => by simp) (fun j p hj => by simp [hj]) hn h
  refine wp_region_partsN (F := F) ps.length (fun i => (ps[i]?).getD (.inl undef)) hm hB ?_ ?_ ?_
  · intro j R hj
    by_cases hlt : j < ps.length
    · exact (spec (fun _ => undef)).2.1 j R (by omega) (by omega) hj
    · have : ps[j]? = none := by simp; omega
      simp [this] at hj
  · intro vs i hi
    unfold stepForN
    obtain ⟨o, ho, hs⟩ := (spec vs).1 i (by omega) (by omega)
    rw [ho]
    intro W hW hW2 hd
    have hs := hs W hW hW2 (near_of hd)
    have looks : ∀ t ∈ o.looksAt l.toArray, (lay l.toArray (fixed (fun i => (ps[i]?).getD (.inl undef)) vs) a i).tmps[t]? = (lay l.toArray vs a i).tmps[t]? := by
      intro t ht
      rw [lay_get, lay_get]
      unfold slotOf
      cases hc : lastW l.toArray (fun _ => true) t i with
      | none => rfl
      | some j =>
        obtain ⟨c1, _, c3, _⟩ := lastW_some hc
        simp only
        rw [fixed_eq (depsHold_get hd j t c1 c3 ht)]
    rw [wanted_congr looks] at hs
    simp only
    split
    · rename_i hw; rw [if_pos hw] at hs
      refine hs.of_eval (exec_congr (fun cs b => Region.noSelect_spec (by simp only [partsB, Bool.and_eq_true] at hB; exact hB.1.1.1.1.1) i o cs b ho) (fun t ht => (looks t ht).symm))
    · rename_i hw; rw [if_neg hw] at hs; exact hs
  · intro vs W hW hall
    have := (spec vs).2.2 W hW (every_of (by simpa using hall))
    have e : lay l.toArray (fixed (fun i => (ps[i]?).getD (.inl undef)) vs) a ps.length = lay l.toArray vs a ps.length := act_ext (fun t => by
      rw [lay_get, lay_get]
      unfold slotOf
      cases hc : lastW l.toArray (fun _ => true) t ps.length with
      | none => rfl
      | some j =>
        obtain ⟨c1, _, _, _⟩ := lastW_some hc
        simp only
        rw [fixed_eq (allHold_get hall j c1)]) (by rw [lay_defers, lay_defers])
    rw [Nat.zero_add, e] at this
    exact this

end

section
variable {P : Program} {ops : Array Oper} {w : World} {Q : Exit → Act → World → Prop} {o : Oper} {os : List Oper} {ps : List Piece} {G : List (Tmp × (World → Prop))} {a : Act} {F : Fam} {k : Nat}

/-- One operation, whose value is known. -/
theorem wpPartsN_det {v : Value} (hk : F.rel k = Bel) (hw : Region.wanted o (yielded ops a.tmps) = true) (h : ∀ W, F.all w W → near ops o G W → Gives P o a W (fun u _ => u = v))
    (hr : wpPartsN P F ops w Q (k + 1) os ps G (a.put o.dst v)) : wpPartsN P F ops w Q k (o :: os) (.inl v :: ps) G a := by
  unfold wpPartsN
  rw [if_pos hw, hk]
  exact ⟨fun W h1 _ h2 => h W h1 h2, hr⟩
/-- One operation of whose value something is known. -/
theorem wpPartsN_any {d : Tmp} {R : Value → World → Prop} (hk : F.rel k = Bel) (hd : o.dst = some d) (hst2 : ∀ v W W', R v W → F.all W W' → R v W') (hw : Region.wanted o (yielded ops a.tmps) = true)
    (h : ∀ W, F.all w W → near ops o G W → Gives P o a W R) (hr : ∀ u, wpPartsN P F ops w Q (k + 1) os ps ((d, R u) :: G) (a.put (some d) u)) : wpPartsN P F ops w Q k (o :: os) (.inr R :: ps) G a := by
  unfold wpPartsN
  refine ⟨⟨fun i _ v W W' hR hr => hst2 v W W' hR (F.le i _ _ hr), hw, fun W h1 _ h2 => by rw [hk]; exact h W h1 h2⟩, fun u => ?_⟩
  simp only [hd]
  exact hr u
/-- An operation that writes. -/
theorem wpPartsN_writes {d : Tmp} {K L : World → World → Prop} {R : Value → World → Prop} (hk : F.rel k = K) (ho : F.oth k = L) (hd : o.dst = some d) (hst : ∀ v W W', R v W → L W W' → R v W') (hw : Region.wanted o (yielded ops a.tmps) = true)
    (h : ∀ W, L w W → near ops o G W → GivesK P K o a W R) (hr : ∀ u, wpPartsN P F ops w Q (k + 1) os ps ((d, R u) :: G) (a.put (some d) u)) : wpPartsN P F ops w Q k (o :: os) (.inr R :: ps) G a := by
  unfold wpPartsN
  refine ⟨⟨fun i hi v W W' hR hr => hst v W W' hR (ho ▸ F.leo i k hi _ _ hr), hw, fun W _ h0 h2 => by rw [hk]; exact h W (ho ▸ h0) h2⟩, fun u => ?_⟩
  simp only [hd]
  exact hr u
theorem wpPartsN_end (h : ∀ W, F.all w W → every G W → wpList P ops Q os a W) : wpPartsN P F ops w Q k os [] G a := by
  cases os <;> (unfold wpPartsN; exact h)
end
/-- Two operations write, each its own. -/
def fam2 (p q : Nat) (hpq : p ≠ q) {K Kp Kq : World → World → Prop} (g : Goes K) (gp : Goes Kp) (gq : Goes Kq) (lp : ∀ W W', Kp W W' → K W W') (lq : ∀ W W', Kq W W' → K W W') : Fam where
  all := K
  rel i := if i = p then Kp else if i = q then Kq else Bel
  oth i := if i = p then Kq else if i = q then Kp else K
  gall := g
  grel i := by split; exact gp; split; exact gq; exact goes_bel
  goth i := by split; exact gq; split; exact gp; exact g
  le i W W' h := by
    split at h; exact lp _ _ h
    split at h; exact lq _ _ h
    exact g.bel _ _ h
  leo i j hij W W' h := by
    split at h
    · rename_i e; subst e
      rw [if_neg (Ne.symm hij)]; split
      · exact h
      · exact lp _ _ h
    · split at h
      · rename_i e1 e; subst e
        split
        · exact h
        · rw [if_neg (Ne.symm hij)]; exact lq _ _ h
      · split
        · exact gq.bel _ _ h
        · split
          · exact gp.bel _ _ h
          · exact g.bel _ _ h
end Go.Dav

namespace Go.Dav
set_option linter.unusedVariables false
set_option linter.unusedSimpArgs false
open Go Go.RowKit
/-- No two keys that stand together are one, up to the k-th. -/
def noDup (m : List PairE) (k : Nat) : Prop := ∀ i x y, i + 1 < k → m[i]? = some x → m[i + 1]? = some y → (x.key.toList == y.key.toList) = false
def hasDup (m : List PairE) : Prop := ∃ i x y, m[i]? = some x ∧ m[i + 1]? = some y ∧ (x.key.toList == y.key.toList) = true
def zeroL : List Value := [.int .i64 0, .int .i64 0, .string ⟨#[]⟩, .slice none 0 0, .slice none 0 0]
def kidsL (m : List PairE) (k : Nat) : List Value := (m.take k).flatMap PairE.vcells
def keysL (m : List PairE) (k : Nat) : List Value := (m.take k).map fun e => .string e.key
theorem kidsL_succ {m : List PairE} {k : Nat} {e : PairE} (h : m[k]? = some e) : kidsL m (k + 1) = kidsL m k ++ e.vcells := by unfold kidsL; rw [List.take_add_one, h, List.flatMap_append]; simp
theorem keysL_succ {m : List PairE} {k : Nat} {e : PairE} (h : m[k]? = some e) : keysL m (k + 1) = keysL m k ++ [.string e.key] := by unfold keysL; rw [List.take_add_one, h, List.map_append]; simp
/-- While an object is laid. -/
structure ObjAt (W : World) (z b5 B C tV tS tP : Nat) (ra : Option Addr) (m : List PairE) (k : Nat) (kk : Option Addr) (kc : Nat) (qk : Option Addr) (qc : Nat) : Prop where
  zero : Blk W z zeroL tV
  box : Blk W b5 [.int .i64 6, .int .i64 0, .string ⟨#[]⟩, .slice kk k kc, .slice qk k qc] tV
  row : RowOk W B ra m tP
  kids : W.ownsRow C tV 5 (.slice kk k kc) k (kidsL m k)
  keys : W.ownsRow C tS 1 (.slice qk k qc) k (keysL m k)
theorem ObjAt.ext {W W' : World} {z b5 B C tV tS tP : Nat} {ra : Option Addr} {m : List PairE} {k : Nat} {kk : Option Addr} {kc : Nat} {qk : Option Addr} {qc : Nat} (h : ObjAt W z b5 B C tV tS tP ra m k kk kc qk qc) (hb : Below W.heap.size W W') : ObjAt W' z b5 B C tV tS tP ra m k kk kc qk qc :=
  ⟨h.zero.ext hb, h.box.ext hb, h.row.ext hb, ownsRow_below h.kids hb, ownsRow_below h.keys hb⟩
theorem RowOk.onlyS {p : Nat → Prop} {W W' : World} {B : Nat} {ra : Option Addr} {m : List PairE} {t : TypeId} (h : RowOk W B ra m t) (k : OnlyS p W W') (hp : ∀ g cs, Blk W g cs t → ¬ p g) : RowOk W' B ra m t := h.imp id fun ⟨g, h1, h2, r, h3⟩ => ⟨g, h1, h2, r, h3.onlyS k (hp g _ h3)⟩
theorem own_high {base n size : Nat} {e : TypeId} {xs : List Value} {v : Value} {W : World} (h : W.ownsRow base e size v n xs) {b : Nat} (hb : OwnW v b) : base ≤ b := (h.lt b hb).1
/-- A row of one's own: where it lies. -/
theorem own_lies {base e size n c : Nat} {a : Option Addr} {xs : List Value} {W : World} (h : W.ownsRow base e size (.slice a n c) n xs) : n ≤ c ∧ c ≤ maxLen ∧ (a = none → c = 0) ∧ ∀ j u, xs[j]? = some u → ∃ g, a = some ⟨g, 0, none⟩ ∧ g < W.heap.size ∧ W.cell? ⟨g, j, none⟩ = some u := by
  rcases h.2 with ⟨h1, h2⟩ | ⟨g, cap, cur, h1, hb, hg, h3, h4, h5, h6⟩
  · cases h1
    refine ⟨Nat.le_refl _, by unfold maxLen; omega, fun _ => rfl, fun j u hj => ?_⟩
    have := (List.getElem?_eq_some_iff.1 hj).1
    have := h.1
    omega
  · cases h1
    refine ⟨h3, h4, (fun hn => by cases hn), fun j u hj => ⟨g, rfl, (Array.getElem?_eq_some_iff.1 hg).1, ?_⟩⟩
    have := World.ownsRow.cells h (g := g) rfl j u hj
    rwa [Addr.add_mid, Nat.zero_add] at this
theorem vflat_get {e : PairE} {j : Nat} (hj : j < 5) : ∀ (l : List PairE) (i : Nat), l[i]? = some e → (l.flatMap PairE.vcells)[i * 5 + j]? = e.vcells[j]?
  | [], i, h => by simp at h
  | x :: l, 0, h => by
    simp only [List.getElem?_cons_zero, Option.some.injEq] at h
    subst h
    rw [List.flatMap_cons, List.getElem?_append_left (by simp [PairE.vcells]; omega)]
    simp
  | x :: l, i + 1, h => by
    rw [List.flatMap_cons, List.getElem?_append_right (by simp [PairE.vcells]; omega), show (i + 1) * 5 + j - x.vcells.length = i * 5 + j from by simp [PairE.vcells]; omega]
    exact vflat_get hj l i (by simpa using h)
/-- The object that the rows make. -/
theorem objVal {d : Nat} {f : PairE → ValN d} {w W : World} {C tV tS n : Nat} {m : List PairE} {kk : Option Addr} {kc : Nat} {qk : Option Addr} {qc : Nat} (hki : W.ownsRow C tV 5 (.slice kk n kc) n (kidsL m n)) (hke : W.ownsRow C tS 1 (.slice qk n qc) n (keysL m n)) (hn : m.length = n) (hn2 : n ≤ 1000000) (hb : Below w.heap.size w W)
    (hf : ∀ e ∈ m, ValAt w d (.agg #[.int .i64 e.k, .int .i64 e.n, .string e.s, .slice e.a1 e.l1 e.c1, .slice e.a2 e.l2 e.c2]) (f e)) (hk : ∀ e ∈ m, e.key.size ≤ 17592186044416) :
    ValAt W (d + 1) (.agg #[.int .i64 6, .int .i64 0, .string ⟨#[]⟩, .slice kk n kc, .slice qk n qc]) (⟨6, 0, noStr, m.map f, m.map PairE.key⟩ : ValF (ValN d)) := by
  obtain ⟨k1, k2, k3, k4⟩ := own_lies hki
  obtain ⟨q1, q2, q3, q4⟩ := own_lies hke
  refine ⟨kk, n, kc, qk, n, qc, rfl, (by constructor <;> simp [ValN.to]), (by constructor <;> simp [ValN.to]), (by show noStr.size ≤ _; unfold noStr; decide), by show (m.map f).length = n; simpa using hn, k1, k2, by omega, k3, fun i y hy => ?_, ⟨by show (m.map PairE.key).length = n; simpa using hn, q1, q2, by omega, fun k s hs => ?_, q3, fun s hs => ?_⟩⟩
  · have hy : (m.map f)[i]? = some y := hy
    rw [List.getElem?_map, Option.map_eq_some_iff] at hy
    obtain ⟨e, he, rfl⟩ := hy
    have hkl : kidsL m n = m.flatMap PairE.vcells := by unfold kidsL; rw [← hn, List.take_length]
    rw [hkl] at k4
    obtain ⟨g, rfl, hg, c0⟩ := k4 (i * 5 + 0) (.int .i64 e.k) (by rw [vflat_get (by omega) m i he]; rfl)
    have cc : ∀ j u, j < 5 → e.vcells[j]? = some u → W.cell? ⟨g, i * 5 + j, none⟩ = some u := fun j u hj hu => by
      obtain ⟨g', hg', _, h3⟩ := k4 (i * 5 + j) u (by rw [vflat_get hj m i he]; exact hu)
      cases hg'
      exact h3
    refine ⟨g, 0, _, _, _, _, _, rfl, hg, ?_, ?_, ?_, ?_, ?_, ValAt.ext hb d (hf e (List.mem_of_getElem? he))⟩
    · rw [Nat.zero_add]; exact cc 0 _ (by omega) rfl
    · rw [Nat.zero_add]; exact cc 1 _ (by omega) rfl
    · rw [Nat.zero_add]; exact cc 2 _ (by omega) rfl
    · rw [Nat.zero_add]; exact cc 3 _ (by omega) rfl
    · rw [Nat.zero_add]; exact cc 4 _ (by omega) rfl
  · have hs : (m.map PairE.key)[k]? = some s := hs
    rw [List.getElem?_map, Option.map_eq_some_iff] at hs
    obtain ⟨e, he, rfl⟩ := hs
    obtain ⟨g, rfl, hg, c0⟩ := q4 k (.string e.key) (by unfold keysL; rw [← hn, List.take_length, List.getElem?_map, he]; rfl)
    exact ⟨g, 0, rfl, hg, by rw [Nat.zero_add]; exact c0⟩
  · obtain ⟨e, he, rfl⟩ := List.mem_map.1 hs
    exact hk e he
theorem OnlyS.fiveS (W : World) (q : Nat) (a b c d e : Value) : OnlyS (· = q) W (((((W.setCell ⟨q, 0, none⟩ a).setCell ⟨q, 1, none⟩ b).setCell ⟨q, 2, none⟩ c).setCell ⟨q, 3, none⟩ d).setCell ⟨q, 4, none⟩ e) :=
  (((((OnlyS.refl (· = q) W).set q _ _ rfl).set q _ _ rfl).set q _ _ rfl).set q _ _ rfl).set q _ _ rfl
theorem OnlyS.below_ {W W' w : World} (h : OnlyS (· = w.heap.size) W W') (hb : Below w.heap.size w W) : Below w.heap.size w W' := hb.trans (h.below hb.size fun k hk => Nat.le_of_eq hk.symm)
def OwnTwo (v u : Value) (b : Nat) : Prop := OwnW v b ∨ OwnW u b
theorem OnlyS.wide {p q : Nat → Prop} {W W' : World} (h : OnlyS p W W') (hpq : ∀ b, p b → q b) : OnlyS q W W' := ⟨h.os, h.tape, h.output, h.size, fun k hk hn => h.block k hk fun hp => hn (hpq k hp)⟩
/-- Of two rows of different types neither block is the other's. -/
theorem own_not2 {base base2 n n2 size size2 : Nat} {e t : TypeId} {xs ys : List Value} {v u : Value} {W : World} (h : W.ownsRow base e size v n xs) (h2 : W.ownsRow base2 t size2 u n2 ys) (ht : t ≠ e) : ∀ b, u.ownBlock = some b → ¬ OwnW v b := fun b hb hv => by
  rcases own_apart2 h h2 ht with h3 | h3
  · rw [h3] at hb; cases hb
  · exact h3 (hb.trans hv.symm)
theorem GivesK.mono {P : Program} {K : World → World → Prop} {o : Oper} {a : Act} {W : World} {R S : Value → World → Prop} (h : GivesK P K o a W R) (hm : ∀ v W', R v W' → S v W') : GivesK P K o a W S := by
  unfold GivesK at *
  revert h
  generalize (execOp a.eval o).run P W = r
  cases r with
  | ok n w' =>
    cases n
    case value u => exact fun h => ⟨h.1, hm _ _ h.2⟩
    case skip => exact fun h => ⟨h.1, hm _ _ h.2⟩
    case enter f args => exact fun h => ⟨h.1, h.2.mono fun e w'' ⟨v, he, hb, hr⟩ => ⟨v, he, hb, hm _ _ hr⟩⟩
    all_goals exact fun h => h.elim
  | halt x w' => exact fun h => h
theorem givesK_own2 {P : Program} {o : Oper} {a : Act} {W : World} {s x : Operand} {t e : TypeId} {base m c n size bytes : Nat} {v : Value} {xs news : List Value} {ad : Addr} {i : TypeInfo} {z : Value} (ho : o.op = .call { callee := .builtin .append, args := #[s, x], argTypes := #[t, t] })
    (ht : P.underlying t = some (.slice e)) (hi : P.info? e = some i) (hz : i.zero = some z) (hsize : i.size = size) (hby : i.bytes = bytes) (hzs : z.cells.size = size) (hsz : 0 < size)
    (hs : a.eval s = v) (hx : a.eval x = .slice (some ad) m c) (hown : W.ownsRow base e size v n xs) (hl : news.length = m * size) (hnews : ∀ j u, news[j]? = some u → W.cell? (ad.add j) = some u) (h1 : ∀ u ∈ news, u.oneCell' = true)
    (h63 : n + m ≤ maxLen) (hbytes : (n + m) * bytes ≤ 140737488355328) (hbase : base ≤ W.heap.size) (u : Value) (hvu : ∀ b, v.ownBlock = some b → ¬ OwnW u b) (hlt : ∀ b, OwnW u b → b < W.heap.size) : GivesK P (OnlyS (OwnW v)) o a W (fun v' W' => W'.ownsRow base e size v' (n + m) (xs ++ news) ∧ ∀ b, v'.ownBlock = some b → ¬ OwnW u b) := by
  obtain ⟨v', w', hr, h2, h3, _, h5⟩ := run_append_own_at (P := P) W base t o.type e i z size bytes ht hi hz hsize hby hzs hsz v n xs hown ad m c news hl hnews h1 h63 hbytes hbase
  unfold GivesK
  rw [run_append_op ho hs hx hr]
  refine ⟨OwnW.of_grown h3, h2, fun b hb => ?_⟩
  rcases h5 with h5 | h5
  · exact hvu b (h5 ▸ hb)
  · exact fun hc => by
      have := hlt b hc
      rw [h5] at hb
      cases hb
      omega
end Go.Dav
namespace Go.Proofs.YtmcmknndhppljaaDoor
set_option linter.unusedVariables false
set_option linter.unusedSimpArgs false
open Go.RowKit Go.Dav
attribute [local go_sem] Gives GivesK ite_val ite_val_true

/-- What Object answers, by the pairs in their order. -/
def TrydObjBack (d : Nat) (f : PairE → ValN d) (w : World) (n : Nat) (l : List PairE) (e : Ending) (w' : World) : Prop :=
  ∃ m, m.length = n ∧ m.Perm l ∧ SortedS m 0 n ∧ ((hasDup m ∧ e = .returned (.tuple #[.agg zeroL.toArray, .int .i64 141])) ∨
    (noDup m n ∧ ∃ v, ValAt w' (d + 1) v (⟨6, 0, noStr, m.map f, m.map PairE.key⟩ : ValF (ValN d)) ∧ e = .returned (wholeV (rightV (d + 1) (⟨6, 0, noStr, m.map f, m.map PairE.key⟩ : ValF (ValN d))) v)))

set_option maxRecDepth 8000 in
set_option maxHeartbeats 8000000 in
theorem Tryd_Object (d : Nat) (f : PairE → ValN d) (a : Option Addr) (n c : Nat) (l : List PairE) (w : World) (hl : l.length = n) (hat : FlatAt w a (flatE l)) (hnil : a = none → c = 0) (hnc : n ≤ c) (hn : n ≤ sortMost) (hf : ∀ e ∈ l, ValAt w d (.agg #[.int .i64 e.k, .int .i64 e.n, .string e.s, .slice e.a1 e.l1 e.c1, .slice e.a2 e.l2 e.c2]) (f e)) (hks : ∀ e ∈ l, e.key.size ≤ 17592186044416) (hN : GlobAt w 0 [.int .i64 0, .int .i64 0] 143) :
    Calls Tryd.prog 23 #[.slice a n c] w fun e w' => TrydObjBack d f w n l e w' ∧ Below w.heap.size w w' := by
  have hn9 : n ≤ 1000000 := by unfold sortMost at hn; omega
  have hone : ∀ u ∈ flatE l, u.oneCell' = true := fun u hu => by
    obtain ⟨e, _, hu⟩ := List.mem_flatMap.1 hu
    simp [PairE.cells] at hu
    rcases hu with rfl | rfl | rfl | rfl | rfl | rfl <;> rfl
  have b0 : Below w.heap.size w (w.alloc (.cells #[.int .i64 0, .int .i64 0, .string ⟨#[]⟩, .slice none 0 0, .slice none 0 0] 39)) := (by repeat (first | (with_reducible exact Below.refl _ _) | (with_reducible exact Below.refl _ _) | (with_reducible refine Below.setCell ?_ (by first | omega | (simp; done) | (simp; omega)) _) | (with_reducible refine Below.alloc ?_ (by first | omega | (simp; done) | (simp; omega)) _) | (with_reducible refine Below.drew ?_) | (with_reducible refine below_drewN ?_ _)))
  have HC := Lib.hid (Tryd_clonePairs a n c (flatE l) _ (by rw [flatE_len, hl]) hone (hat.ext b0) hnil hnc hn9)
  have HZ := Lib.hid (show Blk (w.alloc (.cells #[.int .i64 0, .int .i64 0, .string ⟨#[]⟩, .slice none 0 0, .slice none 0 0] 39)) w.heap.size zeroL 39 from Blk.new _ _ _)
  have HL := Lib.hid hl
  have HF := Lib.hid hf
  have HKS := Lib.hid hks
  have HN := Lib.hid hN
  have HB0 := Lib.hid b0
  have HSM := Lib.hid hn
  clear hone b0 hl hf hks hN hat hn
  go_enter Tryd.func23, Tryd.ntmps23
  go_wp2_with fail
  refine HC.out.mono ?_; rintro e w1 ⟨v, rfl, hown, hb1⟩
  obtain ⟨ra, rc, rfl⟩ := own_sliceW hown
  have hso := Tryd_sortAny (w.heap.size + 1) n rc ra l w1 (by have h := hown; rw [World.size_alloc] at h; exact h) (by have := hb1.size; simp at this; omega) HSM.out
  have HSO := Lib.hid hso
  have HB1 := Lib.hid (HB0.out.trans (hb1.mono HB0.out.size))
  have HZ1 := Lib.hid (HZ.out.ext hb1)
  have hs1 := hb1.size
  simp only [World.size_alloc] at hs1
  clear hown hso hb1 HZ HC
  go_wp2_with fail
  refine HSO.out.mono ?_; rintro e w2 ⟨rfl, m, hml, hmp, hms, hrow, hb2⟩
  have HZ2 := Lib.hid (HZ1.out.below hb2 (by omega))
  have HB2 := Lib.hid (HB1.out.trans (hb2.mono (by omega)))
  have hs2 := hb2.size
  have HML := Lib.hid hml
  have HMP := Lib.hid hmp
  have HMS := Lib.hid hms
  have HROW := Lib.hid hrow
  clear hml hmp hms hrow hb2 HSO HZ1 HB1
  have hfm : ∀ e ∈ m, ValAt w d (.agg #[.int .i64 e.k, .int .i64 e.n, .string e.s, .slice e.a1 e.l1 e.c1, .slice e.a2 e.l2 e.c2]) (f e) := fun e he => HF.out e (HMP.out.mem_iff.1 he)
  have hkm : ∀ e ∈ m, e.key.size ≤ 17592186044416 := fun e he => HKS.out e (HMP.out.mem_iff.1 he)
  have HFM := Lib.hid hfm
  have HKM := Lib.hid hkm
  clear hfm hkm HF HKS
  go_wp2_with fail
  go_loopw [15] (fun ix wr => ∃ (k : Nat) (kk : Option Addr) (kc : Nat) (qk : Option Addr) (qc : Nat), k ≤ n ∧ ix = .int .i64 (k : Int) ∧ ObjAt wr w.heap.size w2.heap.size (w.heap.size + 1) (w2.heap.size + 1) 39 9 56 ra m k kk kc qk qc ∧ noDup m k ∧ Below w.heap.size w wr ∧ w2.heap.size + 1 ≤ wr.heap.size) (fun ix _ => n - (intOf ix).toNat)
  case atStart =>
    have b3 : Below w2.heap.size w2 (w2.alloc (.cells #[.int .i64 6, .int .i64 0, .string ⟨#[]⟩, .slice none 0 0, .slice none 0 0] 39)) := (by repeat (first | (with_reducible exact Below.refl _ _) | (with_reducible exact Below.refl _ _) | (with_reducible refine Below.setCell ?_ (by first | omega | (simp; done) | (simp; omega)) _) | (with_reducible refine Below.alloc ?_ (by first | omega | (simp; done) | (simp; omega)) _) | (with_reducible refine Below.drew ?_) | (with_reducible refine below_drewN ?_ _)))
    exact ⟨0, none, 0, none, 0, Nat.zero_le _, by go_num, ⟨HZ2.out.ext b3, Blk.new _ _ _, HROW.out.ext b3, World.ownsRow_nil _ _ _ _, World.ownsRow_nil _ _ _ _⟩, fun i x y h => by omega, HB2.out.trans (b3.mono HB2.out.size), by simp⟩
  case round =>
    obtain ⟨k, kk, kc, qk, qc, hk, rfl, hob, hnd, hbel, hsz⟩ := hrel
    have HOB := Lib.hid hob
    have HND := Lib.hid hnd
    have HBEL := Lib.hid hbel
    clear hob hnd hbel
    by_cases hlt : k < n
    · have g1 : (k : Int) < (n : Int) := by omega
      obtain ⟨p, hp⟩ : ∃ p, m[k]? = some p := ⟨_, List.getElem?_eq_getElem (by have := HML.out; omega)⟩
      obtain ⟨g, rfl, hBg, hpa⟩ : ∃ g, ra = some ⟨g, 0, none⟩ ∧ w.heap.size + 1 ≤ g ∧ PairsAt wr g m 56 := by
        rcases HOB.out.row with h | h
        · rw [h] at hp; simp at hp
        · exact h
      obtain ⟨x0, x1, x2, x3, x4, x5⟩ := hpa.get hp
      have lg := hpa.lt
      have HP := Lib.hid hp
      have HPA := Lib.hid hpa
      have b4 : Below wr.heap.size wr (wr.alloc (.cells #[.string p.key, .int .i64 p.k, .int .i64 p.n, .string p.s, .slice p.a1 p.l1 p.c1, .slice p.a2 p.l2 p.c2] 56)) := (by repeat (first | (with_reducible exact Below.refl _ _) | (with_reducible exact Below.refl _ _) | (with_reducible refine Below.setCell ?_ (by first | omega | (simp; done) | (simp; omega)) _) | (with_reducible refine Below.alloc ?_ (by first | omega | (simp; done) | (simp; omega)) _) | (with_reducible refine Below.drew ?_) | (with_reducible refine below_drewN ?_ _)))
      have HOB4 := Lib.hid (HOB.out.ext b4)
      have HBEL4 := Lib.hid (HBEL.out.trans (b4.mono HBEL.out.size))
      have HB7 := Lib.hid (show Blk (wr.alloc (.cells #[.string p.key, .int .i64 p.k, .int .i64 p.n, .string p.s, .slice p.a1 p.l1 p.c1, .slice p.a2 p.l2 p.c2] 56)) wr.heap.size [.string p.key, .int .i64 p.k, .int .i64 p.n, .string p.s, .slice p.a1 p.l1 p.c1, .slice p.a2 p.l2 p.c2] 56 from Blk.new _ _ _)
      clear hp hpa b4
      by_cases hk0 : k = 0
      · subst hk0
        simp only [Nat.zero_mul, Nat.zero_add] at x0 x1 x2 x3 x4 x5
        go_wp2_with fail
        refine' wp_region_seq [.inl _, .inl _, .inl _, .inl undef, .inl undef, .inl undef, .inl undef, .inl undef, .inl undef, .inl undef, .inl undef, .inl undef, .inl _] (by kernel_rfl) (by kernel_rfl) ?main1
        case main1 =>
          refine wpParts_det (by rfl) (fun W hE hN => ?_) ?_
          · go_simp; refine ⟨Below.refl _ _, ?_⟩; rfl
          simp only [Act.put, List.setIfInBounds_toArray, List.set_cons_zero, List.set_cons_succ]
          refine wpParts_det (by rfl) (fun W hE hN => ?_) ?_
          · go_simp; refine ⟨Below.refl _ _, ?_⟩; rfl
          simp only [Act.put, List.setIfInBounds_toArray, List.set_cons_zero, List.set_cons_succ]
          refine wpParts_det (by rfl) (fun W hE hN => ?_) ?_
          · go_simp; refine ⟨Below.refl _ _, ?_⟩; rfl
          simp only [Act.put, List.setIfInBounds_toArray, List.set_cons_zero, List.set_cons_succ]
          refine wpParts_skip ?_ ?_
          · rfl
          simp only [Act.put, List.setIfInBounds_toArray, List.set_cons_zero, List.set_cons_succ]
          refine wpParts_skip ?_ ?_
          · rfl
          simp only [Act.put, List.setIfInBounds_toArray, List.set_cons_zero, List.set_cons_succ]
          refine wpParts_skip ?_ ?_
          · rfl
          simp only [Act.put, List.setIfInBounds_toArray, List.set_cons_zero, List.set_cons_succ]
          refine wpParts_skip ?_ ?_
          · rfl
          simp only [Act.put, List.setIfInBounds_toArray, List.set_cons_zero, List.set_cons_succ]
          refine wpParts_skip ?_ ?_
          · rfl
          simp only [Act.put, List.setIfInBounds_toArray, List.set_cons_zero, List.set_cons_succ]
          refine wpParts_skip ?_ ?_
          · rfl
          simp only [Act.put, List.setIfInBounds_toArray, List.set_cons_zero, List.set_cons_succ]
          refine wpParts_skip ?_ ?_
          · rfl
          simp only [Act.put, List.setIfInBounds_toArray, List.set_cons_zero, List.set_cons_succ]
          refine wpParts_skip ?_ ?_
          · rfl
          simp only [Act.put, List.setIfInBounds_toArray, List.set_cons_zero, List.set_cons_succ]
          refine wpParts_skip ?_ ?_
          · rfl
          simp only [Act.put, List.setIfInBounds_toArray, List.set_cons_zero, List.set_cons_succ]
          refine wpParts_det (by rfl) (fun W hE hN => ?_) ?_
          · go_simp; refine ⟨Below.refl _ _, ?_⟩; rfl
          simp only [Act.put, List.setIfInBounds_toArray, List.set_cons_zero, List.set_cons_succ]
          refine wpParts_end fun W2 hE2 hG2 => ?_
          have hcW2 := fun b o h => hE2.cell (p := ⟨b, o, none⟩) h
          have hfW2 := fun b o h => hE2.frozen (p := ⟨b, o, none⟩) h
          have HNDS := Lib.hid (show noDup m (0 + 1) from fun i x y h => by omega)
          have hob2 := HOB4.out.ext hE2
          have hb7 := HB7.out.ext hE2
          have HBEL2 := Lib.hid (HBEL4.out.trans (hE2.mono HBEL4.out.size))
          have hA5 : ¬ OwnTwo (.slice qk 0 qc) (.slice kk 0 kc) w2.heap.size := fun h => by
            rcases h with h | h
            · have := own_high hob2.keys h; omega
            · have := own_high hob2.kids h; omega
          have hA7 : ¬ OwnTwo (.slice qk 0 qc) (.slice kk 0 kc) wr.heap.size := fun h => by
            rcases h with h | h
            · exact own_apart hob2.keys hb7 (show 56 ≠ 9 by decide) h
            · exact own_apart hob2.kids hb7 (show 56 ≠ 39 by decide) h
          have HA5 := Lib.hid hA5
          have HA7 := Lib.hid hA7
          have HQ5 := Lib.hid hob2.box
          have HQ7 := Lib.hid hb7
          have HOB2 := Lib.hid hob2
          have q5 := hob2.box.cells
          have l5 := hob2.box.lt
          have q7 := hb7.cells
          have l7 := hb7.lt
          have HLTK := Lib.hid (show ∀ b, OwnTwo (.slice qk 0 qc) (.slice kk 0 kc) b → b < W2.heap.size from fun b hb => hb.elim (fun h => (hob2.keys.lt b h).2) (fun h => (hob2.kids.lt b h).2))
          have hsz2 : w2.heap.size + 1 ≤ W2.heap.size := by have := hE2.size; simp at this; omega
          obtain ⟨i0, hi0, hz0, hz1, hz2⟩ := info_parts Tryd_infoString
          obtain ⟨i1, hj0, hy0, hy1, hy2⟩ := info_parts Tryd_infoValue
          have HI0 := Lib.hid (And.intro hi0 (And.intro hz0 (And.intro hz1 hz2)))
          have HI1 := Lib.hid (And.intro hj0 (And.intro hy0 (And.intro hy1 hy2)))
          have HKN := Lib.hid (show 0 + 1 ≤ 1000000 by omega)
          clear hE2 hcW2 hfW2 hob2 hb7 hi0 hz0 hz1 hz2 hj0 hy0 hy1 hy2 lg hA5 hA7
          try clear x0 x1 x2 x3 x4 x5
          try clear y0
          go_wp2_with fail
          refine' wp_region_seqN (fam2 5 11 (by decide) (goes_onlyW (OwnTwo (.slice qk 0 qc) (.slice kk 0 kc))) (goes_onlyW (OwnW (.slice qk 0 qc))) (goes_onlyW (OwnW (.slice kk 0 kc))) (fun _ _ h => h.wide fun b => .inl) (fun _ _ h => h.wide fun b => .inr)) [.inl _, .inl _, .inl _, .inl _, .inr (SlOwn W2.heap.size 1 [.string p.key] 9), .inr (fun v W => W.ownsRow (w2.heap.size + 1) 9 1 v (0 + 1) (keysL m 0 ++ [.string p.key]) ∧ ∀ b, v.ownBlock = some b → ¬ OwnW (.slice kk 0 kc) b), .inl _, .inl _, .inl _, .inl _, .inr (SlOwn W2.heap.size 1 p.vcells 39), .inr (fun v W => W.ownsRow (w2.heap.size + 1) 39 5 v (0 + 1) (kidsL m 0 ++ p.vcells) ∧ ∀ b, v.ownBlock = some b → ¬ OwnW (.slice qk 0 qc) b), .inl _] (by kernel_rfl) (by kernel_rfl) ?main2
          case main2 =>
            refine wpPartsN_det rfl (by rfl) (fun W hE hN => ?_) ?_
            · go_simp; refine ⟨Below.refl _ _, ?_⟩; rfl
            simp only [Act.put, List.setIfInBounds_toArray, List.set_cons_zero, List.set_cons_succ]
            refine wpPartsN_det rfl (by rfl) (fun W hE hN => ?_) ?_
            · have q5 := (HQ5.out.onlyS hE HA5.out).cells; have q7 := (HQ7.out.onlyS hE HA7.out).cells; go_simp; refine ⟨Below.refl _ _, ?_⟩; rfl
            simp only [Act.put, List.setIfInBounds_toArray, List.set_cons_zero, List.set_cons_succ]
            refine wpPartsN_det rfl (by rfl) (fun W hE hN => ?_) ?_
            · go_simp; refine ⟨Below.refl _ _, ?_⟩; rfl
            simp only [Act.put, List.setIfInBounds_toArray, List.set_cons_zero, List.set_cons_succ]
            refine wpPartsN_det rfl (by rfl) (fun W hE hN => ?_) ?_
            · have q5 := (HQ5.out.onlyS hE HA5.out).cells; have q7 := (HQ7.out.onlyS hE HA7.out).cells; go_simp; refine ⟨Below.refl _ _, ?_⟩; rfl
            simp only [Act.put, List.setIfInBounds_toArray, List.set_cons_zero, List.set_cons_succ]
            refine wpPartsN_any rfl rfl (SlOwn.only HLTK.out) (by rfl) (fun W hE hN => ?_) (fun u4 => ?_)
            · go_simp; exact ⟨(by repeat (first | (with_reducible exact Below.refl _ _) | (with_reducible exact Below.refl _ _) | (with_reducible refine Below.setCell ?_ (by first | omega | (simp; done) | (simp; omega)) _) | (with_reducible refine Below.alloc ?_ (by first | omega | (simp; done) | (simp; omega)) _) | (with_reducible refine Below.drew ?_) | (with_reducible refine below_drewN ?_ _))), _, rfl, hE.size, Blk.new _ _ _⟩
            simp only [Act.put, List.setIfInBounds_toArray, List.set_cons_zero, List.set_cons_succ]
            refine wpPartsN_writes (K := OnlyS (OwnW (.slice qk 0 qc))) (L := OnlyS (OwnW (.slice kk 0 kc))) rfl rfl rfl (fun v W W' h hb => ⟨ownsRow_onlyS h.1 hb h.2, h.2⟩) (by rfl) (fun W hE hN => ?_) (fun u5 => ?_)
            · obtain ⟨⟨h4, rfl, _, hB4⟩, _⟩ := (show SlOwn W2.heap.size 1 [.string p.key] 9 u4 W ∧ True from hN); exact givesK_own2 (v := .slice qk 0 qc) (n := 0) (m := 1) rfl Tryd.underlying37 HI0.out.1 HI0.out.2.1 HI0.out.2.2.1 HI0.out.2.2.2 rfl (by decide) rfl rfl (ownsRow_onlyS HOB2.out.keys hE (own_not2 HOB2.out.kids HOB2.out.keys (show 9 ≠ 39 by decide))) rfl (fun j u hj => by rw [Addr.add_mid, Nat.zero_add, hB4.cells j, hj]) (by simp [Value.oneCell']) (by have := HKN.out; unfold maxLen; omega) (by have := HKN.out; omega) (by have := hE.size; omega) (.slice kk 0 kc) (own_not2 HOB2.out.kids HOB2.out.keys (show 9 ≠ 39 by decide)) (fun b hb => by have := (HOB2.out.kids.lt b hb).2; have := hE.size; omega)
            simp only [Act.put, List.setIfInBounds_toArray, List.set_cons_zero, List.set_cons_succ]
            refine wpPartsN_det rfl (by rfl) (fun W hE hN => ?_) ?_
            · go_simp; refine ⟨Below.refl _ _, ?_⟩; rfl
            simp only [Act.put, List.setIfInBounds_toArray, List.set_cons_zero, List.set_cons_succ]
            refine wpPartsN_det rfl (by rfl) (fun W hE hN => ?_) ?_
            · have q5 := (HQ5.out.onlyS hE HA5.out).cells; have q7 := (HQ7.out.onlyS hE HA7.out).cells; go_simp; refine ⟨Below.refl _ _, ?_⟩; rfl
            simp only [Act.put, List.setIfInBounds_toArray, List.set_cons_zero, List.set_cons_succ]
            refine wpPartsN_det rfl (by rfl) (fun W hE hN => ?_) ?_
            · go_simp; refine ⟨Below.refl _ _, ?_⟩; rfl
            simp only [Act.put, List.setIfInBounds_toArray, List.set_cons_zero, List.set_cons_succ]
            refine wpPartsN_det rfl (by rfl) (fun W hE hN => ?_) ?_
            · have q5 := (HQ5.out.onlyS hE HA5.out).cells; have q7 := (HQ7.out.onlyS hE HA7.out).cells; go_simp; refine ⟨Below.refl _ _, ?_⟩; rfl
            simp only [Act.put, List.setIfInBounds_toArray, List.set_cons_zero, List.set_cons_succ]
            refine wpPartsN_any rfl rfl (SlOwn.only HLTK.out) (by rfl) (fun W hE hN => ?_) (fun u10 => ?_)
            · go_simp; exact ⟨(by repeat (first | (with_reducible exact Below.refl _ _) | (with_reducible exact Below.refl _ _) | (with_reducible refine Below.setCell ?_ (by first | omega | (simp; done) | (simp; omega)) _) | (with_reducible refine Below.alloc ?_ (by first | omega | (simp; done) | (simp; omega)) _) | (with_reducible refine Below.drew ?_) | (with_reducible refine below_drewN ?_ _))), _, rfl, hE.size, Blk.new _ _ _⟩
            simp only [Act.put, List.setIfInBounds_toArray, List.set_cons_zero, List.set_cons_succ]
            refine wpPartsN_writes (K := OnlyS (OwnW (.slice kk 0 kc))) (L := OnlyS (OwnW (.slice qk 0 qc))) rfl rfl rfl (fun v W W' h hb => ⟨ownsRow_onlyS h.1 hb h.2, h.2⟩) (by rfl) (fun W hE hN => ?_) (fun u11 => ?_)
            · obtain ⟨⟨h10, rfl, _, hB10⟩, _⟩ := (show SlOwn W2.heap.size 1 p.vcells 39 u10 W ∧ True from hN); exact givesK_own2 (v := .slice kk 0 kc) (n := 0) (m := 1) rfl Tryd.underlying36 HI1.out.1 HI1.out.2.1 HI1.out.2.2.1 HI1.out.2.2.2 rfl (by decide) rfl rfl (ownsRow_onlyS HOB2.out.kids hE (own_not2 HOB2.out.keys HOB2.out.kids (show 39 ≠ 9 by decide))) rfl (fun j u hj => by rw [Addr.add_mid, Nat.zero_add, hB10.cells j, hj]) (by simp [PairE.vcells, Value.oneCell']) (by have := HKN.out; unfold maxLen; omega) (by have := HKN.out; omega) (by have := hE.size; omega) (.slice qk 0 qc) (own_not2 HOB2.out.keys HOB2.out.kids (show 39 ≠ 9 by decide)) (fun b hb => by have := (HOB2.out.keys.lt b hb).2; have := hE.size; omega)
            simp only [Act.put, List.setIfInBounds_toArray, List.set_cons_zero, List.set_cons_succ]
            refine wpPartsN_det rfl (by rfl) (fun W hE hN => ?_) ?_
            · go_simp; refine ⟨Below.refl _ _, ?_⟩; rfl
            simp only [Act.put, List.setIfInBounds_toArray, List.set_cons_zero, List.set_cons_succ]
            refine wpPartsN_end fun W3 hE3 hG3 => ?_
            obtain ⟨⟨hki, _⟩, _, ⟨hke, _⟩, _⟩ := (show (W3.ownsRow (w2.heap.size + 1) 39 5 u11 (0 + 1) (kidsL m 0 ++ p.vcells) ∧ _) ∧ _ ∧ (W3.ownsRow (w2.heap.size + 1) 9 1 u5 (0 + 1) (keysL m 0 ++ [.string p.key]) ∧ _) ∧ _ from hG3)
            obtain ⟨qa, qc', rfl⟩ := own_sliceW hke
            obtain ⟨ka, kc', rfl⟩ := own_sliceW hki
            have HZ5 := Lib.hid (HOB2.out.zero.onlyS hE3 (fun h => by
              rcases h with h | h
              · have := own_high HOB2.out.keys h; have := HB2.out.size; omega
              · have := own_high HOB2.out.kids h; have := HB2.out.size; omega))
            have hbx5 := HOB2.out.box.onlyS hE3 HA5.out
            have HX5 := Lib.hid hbx5
            have HR5 := Lib.hid (HOB2.out.row.onlyS hE3 (fun g cs hg h => by
              rcases h with h | h
              · exact own_apart HOB2.out.keys hg (show 56 ≠ 9 by decide) h
              · exact own_apart HOB2.out.kids hg (show 56 ≠ 39 by decide) h))
            have HKI5 := Lib.hid hki
            have HKE5 := Lib.hid hke
            have hsz5 := hE3.size
            have HBEL5 := Lib.hid (HBEL2.out.trans (hE3.below HBEL2.out.size (fun b hb => by
              rcases hb with h | h
              · have := own_high HOB2.out.keys h; have := HB2.out.size; omega
              · have := own_high HOB2.out.kids h; have := HB2.out.size; omega)))
            have q5 := hbx5.cells
            have m5 := hbx5.marks
            have l5 := hbx5.lt
            clear hE3 hG3 hki hke hbx5
            go_wp2_with fail
            go_roundw
            case rel =>
              have ho6 := ((OnlyS.refl (· = w2.heap.size) W3).set w2.heap.size 4 (.slice qa (0 + 1) qc') rfl).set w2.heap.size 3 (.slice ka (0 + 1) kc') rfl
              refine ⟨0 + 1, ka, kc', qa, qc', by omega, by go_num, ⟨HZ5.out.onlyS ho6 (by have := HB2.out.size; have := HZ2.out.lt; omega), (HX5.out.set 4 _).set 3 _, HR5.out.onlyS ho6 (fun g cs hg e => by
                subst e
                have h1 : W3.heap[w2.heap.size]? = _ := hg
                rw [show W3.heap[w2.heap.size]? = _ from HX5.out] at h1
                cases h1), ?_, ?_⟩, HNDS.out, HBEL5.out.trans (ho6.below HBEL5.out.size (fun b hb => by have := HB2.out.size; omega)), by simp; omega⟩
              · rw [kidsL_succ HP.out]
                exact ownsRow_onlyS HKI5.out ho6 (fun b hb e => by have := own_high HKI5.out hb; omega)
              · rw [keysL_succ HP.out]
                exact ownsRow_onlyS HKE5.out ho6 (fun b hb e => by have := own_high HKE5.out hb; omega)
            case measure => simp [intOf]; omega
      · obtain ⟨q, hq⟩ : ∃ q, q + 1 = k := ⟨k - 1, by omega⟩
        have gd : decide ((0 : Int) < (k : Int)) = true := decide_eq_true (by omega)
        have gd2 : (0 : Int) < (k : Int) := by omega
        have gd3 : decide (0 < k) = true := decide_eq_true (by omega)
        have gd4 : 0 < k := by omega
        have u3 : IntKind.i64.wrap ((k : Int) - 1) = (q : Int) := by have := HSM.out; unfold sortMost at this; rw [IntWalk.i64_in _ (by omega)]; omega
        have gq : (q : Int) < (n : Int) := by omega
        obtain ⟨y, hy⟩ : ∃ y, m[q]? = some y := ⟨_, List.getElem?_eq_getElem (by have := HML.out; omega)⟩
        obtain ⟨y0, y1, y2, y3, y4, y5⟩ := HPA.out.get hy
        have HY := Lib.hid hy
        have HQ := Lib.hid hq
        obtain ⟨eq, heq⟩ : ∃ b, (y.key.toList == p.key.toList) = b := ⟨_, rfl⟩
        have HEQ := Lib.hid heq
        clear hy hq y1 y2 y3 y4 y5
        cases eq with
        | false =>
          go_wp2_with fail
          refine' wp_region_seq [.inl _, .inl _, .inl _, .inl _, .inl _, .inl _, .inl _, .inl _, .inl _, .inl _, .inl _, .inl _, .inl _] (by kernel_rfl) (by kernel_rfl) ?main3
          case main3 =>
            refine wpParts_det (by rfl) (fun W hE hN => ?_) ?_
            · go_simp; refine ⟨Below.refl _ _, ?_⟩; rfl
            simp only [Act.put, List.setIfInBounds_toArray, List.set_cons_zero, List.set_cons_succ]
            refine wpParts_det (by rfl) (fun W hE hN => ?_) ?_
            · go_simp; refine ⟨Below.refl _ _, ?_⟩; rfl
            simp only [Act.put, List.setIfInBounds_toArray, List.set_cons_zero, List.set_cons_succ]
            refine wpParts_det (by rfl) (fun W hE hN => ?_) ?_
            · go_simp; refine ⟨Below.refl _ _, ?_⟩; rfl
            simp only [Act.put, List.setIfInBounds_toArray, List.set_cons_zero, List.set_cons_succ]
            refine wpParts_det (by rfl) (fun W hE hN => ?_) ?_
            · go_simp; refine ⟨Below.refl _ _, ?_⟩; rfl
            simp only [Act.put, List.setIfInBounds_toArray, List.set_cons_zero, List.set_cons_succ]
            refine wpParts_det (by rfl) (fun W hE hN => ?_) ?_
            · go_simp; refine ⟨Below.refl _ _, ?_⟩; rfl
            simp only [Act.put, List.setIfInBounds_toArray, List.set_cons_zero, List.set_cons_succ]
            refine wpParts_det (by rfl) (fun W hE hN => ?_) ?_
            · go_simp; refine ⟨Below.refl _ _, ?_⟩; rfl
            simp only [Act.put, List.setIfInBounds_toArray, List.set_cons_zero, List.set_cons_succ]
            refine wpParts_det (by rfl) (fun W hE hN => ?_) ?_
            · go_simp; refine ⟨Below.refl _ _, ?_⟩; rfl
            simp only [Act.put, List.setIfInBounds_toArray, List.set_cons_zero, List.set_cons_succ]
            refine wpParts_det (by rfl) (fun W hE hN => ?_) ?_
            · go_simp; refine ⟨Below.refl _ _, ?_⟩; rfl
            simp only [Act.put, List.setIfInBounds_toArray, List.set_cons_zero, List.set_cons_succ]
            refine wpParts_det (by rfl) (fun W hE hN => ?_) ?_
            · have hc := fun b o h => hE.cell (p := ⟨b, o, none⟩) h
              go_simp; refine ⟨Below.refl _ _, ?_⟩; rfl
            simp only [Act.put, List.setIfInBounds_toArray, List.set_cons_zero, List.set_cons_succ]
            refine wpParts_det (by rfl) (fun W hE hN => ?_) ?_
            · go_simp; refine ⟨Below.refl _ _, ?_⟩; rfl
            simp only [Act.put, List.setIfInBounds_toArray, List.set_cons_zero, List.set_cons_succ]
            refine wpParts_det (by rfl) (fun W hE hN => ?_) ?_
            · have hc := fun b o h => hE.cell (p := ⟨b, o, none⟩) h
              go_simp; refine ⟨Below.refl _ _, ?_⟩; rfl
            simp only [Act.put, List.setIfInBounds_toArray, List.set_cons_zero, List.set_cons_succ]
            refine wpParts_det (by rfl) (fun W hE hN => ?_) ?_
            · go_simp; refine ⟨Below.refl _ _, ?_⟩; rfl
            simp only [Act.put, List.setIfInBounds_toArray, List.set_cons_zero, List.set_cons_succ]
            refine wpParts_det (by rfl) (fun W hE hN => ?_) ?_
            · go_simp; refine ⟨Below.refl _ _, ?_⟩; rfl
            simp only [Act.put, List.setIfInBounds_toArray, List.set_cons_zero, List.set_cons_succ]
            refine wpParts_end fun W2 hE2 hG2 => ?_
            have hcW2 := fun b o h => hE2.cell (p := ⟨b, o, none⟩) h
            have hfW2 := fun b o h => hE2.frozen (p := ⟨b, o, none⟩) h
            clear heq
            have HNDS := Lib.hid (show noDup m (k + 1) from fun i x y' h hx hy' => by
              by_cases hi : i + 1 = k
              · obtain rfl : i = q := by have := HQ.out; omega
                rw [HY.out] at hx; cases hx
                rw [hi, HP.out] at hy'; cases hy'
                exact HEQ.out
              · exact HND.out i x y' (by omega) hx hy')
            have hob2 := HOB4.out.ext hE2
            have hb7 := HB7.out.ext hE2
            have HBEL2 := Lib.hid (HBEL4.out.trans (hE2.mono HBEL4.out.size))
            have hA5 : ¬ OwnTwo (.slice qk k qc) (.slice kk k kc) w2.heap.size := fun h => by
              rcases h with h | h
              · have := own_high hob2.keys h; omega
              · have := own_high hob2.kids h; omega
            have hA7 : ¬ OwnTwo (.slice qk k qc) (.slice kk k kc) wr.heap.size := fun h => by
              rcases h with h | h
              · exact own_apart hob2.keys hb7 (show 56 ≠ 9 by decide) h
              · exact own_apart hob2.kids hb7 (show 56 ≠ 39 by decide) h
            have HA5 := Lib.hid hA5
            have HA7 := Lib.hid hA7
            have HQ5 := Lib.hid hob2.box
            have HQ7 := Lib.hid hb7
            have HOB2 := Lib.hid hob2
            have q5 := hob2.box.cells
            have l5 := hob2.box.lt
            have q7 := hb7.cells
            have l7 := hb7.lt
            have HLTK := Lib.hid (show ∀ b, OwnTwo (.slice qk k qc) (.slice kk k kc) b → b < W2.heap.size from fun b hb => hb.elim (fun h => (hob2.keys.lt b h).2) (fun h => (hob2.kids.lt b h).2))
            have hsz2 : w2.heap.size + 1 ≤ W2.heap.size := by have := hE2.size; simp at this; omega
            obtain ⟨i0, hi0, hz0, hz1, hz2⟩ := info_parts Tryd_infoString
            obtain ⟨i1, hj0, hy0, hy1, hy2⟩ := info_parts Tryd_infoValue
            have HI0 := Lib.hid (And.intro hi0 (And.intro hz0 (And.intro hz1 hz2)))
            have HI1 := Lib.hid (And.intro hj0 (And.intro hy0 (And.intro hy1 hy2)))
            have HKN := Lib.hid (show k + 1 ≤ 1000000 by omega)
            clear hE2 hcW2 hfW2 hob2 hb7 hi0 hz0 hz1 hz2 hj0 hy0 hy1 hy2 lg hA5 hA7
            try clear x0 x1 x2 x3 x4 x5
            try clear y0
            go_wp2_with fail
            refine' wp_region_seqN (fam2 5 11 (by decide) (goes_onlyW (OwnTwo (.slice qk k qc) (.slice kk k kc))) (goes_onlyW (OwnW (.slice qk k qc))) (goes_onlyW (OwnW (.slice kk k kc))) (fun _ _ h => h.wide fun b => .inl) (fun _ _ h => h.wide fun b => .inr)) [.inl _, .inl _, .inl _, .inl _, .inr (SlOwn W2.heap.size 1 [.string p.key] 9), .inr (fun v W => W.ownsRow (w2.heap.size + 1) 9 1 v (k + 1) (keysL m k ++ [.string p.key]) ∧ ∀ b, v.ownBlock = some b → ¬ OwnW (.slice kk k kc) b), .inl _, .inl _, .inl _, .inl _, .inr (SlOwn W2.heap.size 1 p.vcells 39), .inr (fun v W => W.ownsRow (w2.heap.size + 1) 39 5 v (k + 1) (kidsL m k ++ p.vcells) ∧ ∀ b, v.ownBlock = some b → ¬ OwnW (.slice qk k qc) b), .inl _] (by kernel_rfl) (by kernel_rfl) ?main4
            case main4 =>
              refine wpPartsN_det rfl (by rfl) (fun W hE hN => ?_) ?_
              · go_simp; refine ⟨Below.refl _ _, ?_⟩; rfl
              simp only [Act.put, List.setIfInBounds_toArray, List.set_cons_zero, List.set_cons_succ]
              refine wpPartsN_det rfl (by rfl) (fun W hE hN => ?_) ?_
              · have q5 := (HQ5.out.onlyS hE HA5.out).cells; have q7 := (HQ7.out.onlyS hE HA7.out).cells; go_simp; refine ⟨Below.refl _ _, ?_⟩; rfl
              simp only [Act.put, List.setIfInBounds_toArray, List.set_cons_zero, List.set_cons_succ]
              refine wpPartsN_det rfl (by rfl) (fun W hE hN => ?_) ?_
              · go_simp; refine ⟨Below.refl _ _, ?_⟩; rfl
              simp only [Act.put, List.setIfInBounds_toArray, List.set_cons_zero, List.set_cons_succ]
              refine wpPartsN_det rfl (by rfl) (fun W hE hN => ?_) ?_
              · have q5 := (HQ5.out.onlyS hE HA5.out).cells; have q7 := (HQ7.out.onlyS hE HA7.out).cells; go_simp; refine ⟨Below.refl _ _, ?_⟩; rfl
              simp only [Act.put, List.setIfInBounds_toArray, List.set_cons_zero, List.set_cons_succ]
              refine wpPartsN_any rfl rfl (SlOwn.only HLTK.out) (by rfl) (fun W hE hN => ?_) (fun u4 => ?_)
              · go_simp; exact ⟨(by repeat (first | (with_reducible exact Below.refl _ _) | (with_reducible exact Below.refl _ _) | (with_reducible refine Below.setCell ?_ (by first | omega | (simp; done) | (simp; omega)) _) | (with_reducible refine Below.alloc ?_ (by first | omega | (simp; done) | (simp; omega)) _) | (with_reducible refine Below.drew ?_) | (with_reducible refine below_drewN ?_ _))), _, rfl, hE.size, Blk.new _ _ _⟩
              simp only [Act.put, List.setIfInBounds_toArray, List.set_cons_zero, List.set_cons_succ]
              refine wpPartsN_writes (K := OnlyS (OwnW (.slice qk k qc))) (L := OnlyS (OwnW (.slice kk k kc))) rfl rfl rfl (fun v W W' h hb => ⟨ownsRow_onlyS h.1 hb h.2, h.2⟩) (by rfl) (fun W hE hN => ?_) (fun u5 => ?_)
              · obtain ⟨⟨h4, rfl, _, hB4⟩, _⟩ := (show SlOwn W2.heap.size 1 [.string p.key] 9 u4 W ∧ True from hN); exact givesK_own2 (v := .slice qk k qc) (n := k) (m := 1) rfl Tryd.underlying37 HI0.out.1 HI0.out.2.1 HI0.out.2.2.1 HI0.out.2.2.2 rfl (by decide) rfl rfl (ownsRow_onlyS HOB2.out.keys hE (own_not2 HOB2.out.kids HOB2.out.keys (show 9 ≠ 39 by decide))) rfl (fun j u hj => by rw [Addr.add_mid, Nat.zero_add, hB4.cells j, hj]) (by simp [Value.oneCell']) (by have := HKN.out; unfold maxLen; omega) (by have := HKN.out; omega) (by have := hE.size; omega) (.slice kk k kc) (own_not2 HOB2.out.kids HOB2.out.keys (show 9 ≠ 39 by decide)) (fun b hb => by have := (HOB2.out.kids.lt b hb).2; have := hE.size; omega)
              simp only [Act.put, List.setIfInBounds_toArray, List.set_cons_zero, List.set_cons_succ]
              refine wpPartsN_det rfl (by rfl) (fun W hE hN => ?_) ?_
              · go_simp; refine ⟨Below.refl _ _, ?_⟩; rfl
              simp only [Act.put, List.setIfInBounds_toArray, List.set_cons_zero, List.set_cons_succ]
              refine wpPartsN_det rfl (by rfl) (fun W hE hN => ?_) ?_
              · have q5 := (HQ5.out.onlyS hE HA5.out).cells; have q7 := (HQ7.out.onlyS hE HA7.out).cells; go_simp; refine ⟨Below.refl _ _, ?_⟩; rfl
              simp only [Act.put, List.setIfInBounds_toArray, List.set_cons_zero, List.set_cons_succ]
              refine wpPartsN_det rfl (by rfl) (fun W hE hN => ?_) ?_
              · go_simp; refine ⟨Below.refl _ _, ?_⟩; rfl
              simp only [Act.put, List.setIfInBounds_toArray, List.set_cons_zero, List.set_cons_succ]
              refine wpPartsN_det rfl (by rfl) (fun W hE hN => ?_) ?_
              · have q5 := (HQ5.out.onlyS hE HA5.out).cells; have q7 := (HQ7.out.onlyS hE HA7.out).cells; go_simp; refine ⟨Below.refl _ _, ?_⟩; rfl
              simp only [Act.put, List.setIfInBounds_toArray, List.set_cons_zero, List.set_cons_succ]
              refine wpPartsN_any rfl rfl (SlOwn.only HLTK.out) (by rfl) (fun W hE hN => ?_) (fun u10 => ?_)
              · go_simp; exact ⟨(by repeat (first | (with_reducible exact Below.refl _ _) | (with_reducible exact Below.refl _ _) | (with_reducible refine Below.setCell ?_ (by first | omega | (simp; done) | (simp; omega)) _) | (with_reducible refine Below.alloc ?_ (by first | omega | (simp; done) | (simp; omega)) _) | (with_reducible refine Below.drew ?_) | (with_reducible refine below_drewN ?_ _))), _, rfl, hE.size, Blk.new _ _ _⟩
              simp only [Act.put, List.setIfInBounds_toArray, List.set_cons_zero, List.set_cons_succ]
              refine wpPartsN_writes (K := OnlyS (OwnW (.slice kk k kc))) (L := OnlyS (OwnW (.slice qk k qc))) rfl rfl rfl (fun v W W' h hb => ⟨ownsRow_onlyS h.1 hb h.2, h.2⟩) (by rfl) (fun W hE hN => ?_) (fun u11 => ?_)
              · obtain ⟨⟨h10, rfl, _, hB10⟩, _⟩ := (show SlOwn W2.heap.size 1 p.vcells 39 u10 W ∧ True from hN); exact givesK_own2 (v := .slice kk k kc) (n := k) (m := 1) rfl Tryd.underlying36 HI1.out.1 HI1.out.2.1 HI1.out.2.2.1 HI1.out.2.2.2 rfl (by decide) rfl rfl (ownsRow_onlyS HOB2.out.kids hE (own_not2 HOB2.out.keys HOB2.out.kids (show 39 ≠ 9 by decide))) rfl (fun j u hj => by rw [Addr.add_mid, Nat.zero_add, hB10.cells j, hj]) (by simp [PairE.vcells, Value.oneCell']) (by have := HKN.out; unfold maxLen; omega) (by have := HKN.out; omega) (by have := hE.size; omega) (.slice qk k qc) (own_not2 HOB2.out.keys HOB2.out.kids (show 39 ≠ 9 by decide)) (fun b hb => by have := (HOB2.out.keys.lt b hb).2; have := hE.size; omega)
              simp only [Act.put, List.setIfInBounds_toArray, List.set_cons_zero, List.set_cons_succ]
              refine wpPartsN_det rfl (by rfl) (fun W hE hN => ?_) ?_
              · go_simp; refine ⟨Below.refl _ _, ?_⟩; rfl
              simp only [Act.put, List.setIfInBounds_toArray, List.set_cons_zero, List.set_cons_succ]
              refine wpPartsN_end fun W3 hE3 hG3 => ?_
              obtain ⟨⟨hki, _⟩, _, ⟨hke, _⟩, _⟩ := (show (W3.ownsRow (w2.heap.size + 1) 39 5 u11 (k + 1) (kidsL m k ++ p.vcells) ∧ _) ∧ _ ∧ (W3.ownsRow (w2.heap.size + 1) 9 1 u5 (k + 1) (keysL m k ++ [.string p.key]) ∧ _) ∧ _ from hG3)
              obtain ⟨qa, qc', rfl⟩ := own_sliceW hke
              obtain ⟨ka, kc', rfl⟩ := own_sliceW hki
              have HZ5 := Lib.hid (HOB2.out.zero.onlyS hE3 (fun h => by
                rcases h with h | h
                · have := own_high HOB2.out.keys h; have := HB2.out.size; omega
                · have := own_high HOB2.out.kids h; have := HB2.out.size; omega))
              have hbx5 := HOB2.out.box.onlyS hE3 HA5.out
              have HX5 := Lib.hid hbx5
              have HR5 := Lib.hid (HOB2.out.row.onlyS hE3 (fun g cs hg h => by
                rcases h with h | h
                · exact own_apart HOB2.out.keys hg (show 56 ≠ 9 by decide) h
                · exact own_apart HOB2.out.kids hg (show 56 ≠ 39 by decide) h))
              have HKI5 := Lib.hid hki
              have HKE5 := Lib.hid hke
              have hsz5 := hE3.size
              have HBEL5 := Lib.hid (HBEL2.out.trans (hE3.below HBEL2.out.size (fun b hb => by
                rcases hb with h | h
                · have := own_high HOB2.out.keys h; have := HB2.out.size; omega
                · have := own_high HOB2.out.kids h; have := HB2.out.size; omega)))
              have q5 := hbx5.cells
              have m5 := hbx5.marks
              have l5 := hbx5.lt
              clear hE3 hG3 hki hke hbx5
              go_wp2_with fail
              go_roundw
              case rel =>
                have ho6 := ((OnlyS.refl (· = w2.heap.size) W3).set w2.heap.size 4 (.slice qa (k + 1) qc') rfl).set w2.heap.size 3 (.slice ka (k + 1) kc') rfl
                refine ⟨k + 1, ka, kc', qa, qc', by omega, by go_num, ⟨HZ5.out.onlyS ho6 (by have := HB2.out.size; have := HZ2.out.lt; omega), (HX5.out.set 4 _).set 3 _, HR5.out.onlyS ho6 (fun g cs hg e => by
                  subst e
                  have h1 : W3.heap[w2.heap.size]? = _ := hg
                  rw [show W3.heap[w2.heap.size]? = _ from HX5.out] at h1
                  cases h1), ?_, ?_⟩, HNDS.out, HBEL5.out.trans (ho6.below HBEL5.out.size (fun b hb => by have := HB2.out.size; omega)), by simp; omega⟩
                · rw [kidsL_succ HP.out]
                  exact ownsRow_onlyS HKI5.out ho6 (fun b hb e => by have := own_high HKI5.out hb; omega)
                · rw [keysL_succ HP.out]
                  exact ownsRow_onlyS HKE5.out ho6 (fun b hb e => by have := own_high HKE5.out hb; omega)
              case measure => simp [intOf]; omega
        | true =>
          go_wp2_with fail
          refine' wp_region_seq [.inl _, .inl _, .inl _, .inl _, .inl _, .inl _, .inl _, .inl _, .inl _, .inl _, .inl _, .inl _, .inl _] (by kernel_rfl) (by kernel_rfl) ?main5
          case main5 =>
            refine wpParts_det (by rfl) (fun W hE hN => ?_) ?_
            · go_simp; refine ⟨Below.refl _ _, ?_⟩; rfl
            simp only [Act.put, List.setIfInBounds_toArray, List.set_cons_zero, List.set_cons_succ]
            refine wpParts_det (by rfl) (fun W hE hN => ?_) ?_
            · go_simp; refine ⟨Below.refl _ _, ?_⟩; rfl
            simp only [Act.put, List.setIfInBounds_toArray, List.set_cons_zero, List.set_cons_succ]
            refine wpParts_det (by rfl) (fun W hE hN => ?_) ?_
            · go_simp; refine ⟨Below.refl _ _, ?_⟩; rfl
            simp only [Act.put, List.setIfInBounds_toArray, List.set_cons_zero, List.set_cons_succ]
            refine wpParts_det (by rfl) (fun W hE hN => ?_) ?_
            · go_simp; refine ⟨Below.refl _ _, ?_⟩; rfl
            simp only [Act.put, List.setIfInBounds_toArray, List.set_cons_zero, List.set_cons_succ]
            refine wpParts_det (by rfl) (fun W hE hN => ?_) ?_
            · go_simp; refine ⟨Below.refl _ _, ?_⟩; rfl
            simp only [Act.put, List.setIfInBounds_toArray, List.set_cons_zero, List.set_cons_succ]
            refine wpParts_det (by rfl) (fun W hE hN => ?_) ?_
            · go_simp; refine ⟨Below.refl _ _, ?_⟩; rfl
            simp only [Act.put, List.setIfInBounds_toArray, List.set_cons_zero, List.set_cons_succ]
            refine wpParts_det (by rfl) (fun W hE hN => ?_) ?_
            · go_simp; refine ⟨Below.refl _ _, ?_⟩; rfl
            simp only [Act.put, List.setIfInBounds_toArray, List.set_cons_zero, List.set_cons_succ]
            refine wpParts_det (by rfl) (fun W hE hN => ?_) ?_
            · go_simp; refine ⟨Below.refl _ _, ?_⟩; rfl
            simp only [Act.put, List.setIfInBounds_toArray, List.set_cons_zero, List.set_cons_succ]
            refine wpParts_det (by rfl) (fun W hE hN => ?_) ?_
            · have hc := fun b o h => hE.cell (p := ⟨b, o, none⟩) h
              go_simp; refine ⟨Below.refl _ _, ?_⟩; rfl
            simp only [Act.put, List.setIfInBounds_toArray, List.set_cons_zero, List.set_cons_succ]
            refine wpParts_det (by rfl) (fun W hE hN => ?_) ?_
            · go_simp; refine ⟨Below.refl _ _, ?_⟩; rfl
            simp only [Act.put, List.setIfInBounds_toArray, List.set_cons_zero, List.set_cons_succ]
            refine wpParts_det (by rfl) (fun W hE hN => ?_) ?_
            · have hc := fun b o h => hE.cell (p := ⟨b, o, none⟩) h
              go_simp; refine ⟨Below.refl _ _, ?_⟩; rfl
            simp only [Act.put, List.setIfInBounds_toArray, List.set_cons_zero, List.set_cons_succ]
            refine wpParts_det (by rfl) (fun W hE hN => ?_) ?_
            · go_simp; refine ⟨Below.refl _ _, ?_⟩; rfl
            simp only [Act.put, List.setIfInBounds_toArray, List.set_cons_zero, List.set_cons_succ]
            refine wpParts_det (by rfl) (fun W hE hN => ?_) ?_
            · go_simp; refine ⟨Below.refl _ _, ?_⟩; rfl
            simp only [Act.put, List.setIfInBounds_toArray, List.set_cons_zero, List.set_cons_succ]
            refine wpParts_end fun W2 hE2 hG2 => ?_
            have hcW2 := fun b o h => hE2.cell (p := ⟨b, o, none⟩) h
            have hfW2 := fun b o h => hE2.frozen (p := ⟨b, o, none⟩) h
            clear heq
            have hz2 := HOB4.out.zero.ext hE2
            have q2 := hz2.cells
            unfold zeroL at q2
            have m2 := hz2.marks
            have l2 := hz2.lt
            have HZ5 := Lib.hid hz2
            have HBEL2 := Lib.hid (HBEL4.out.trans (hE2.mono HBEL4.out.size))
            clear hz2 hE2 hcW2 hfW2 lg x0 x1 x2 x3 x4 x5 y0
            go_wp2
            have c4 := (HZ5.out.fiveV (.int .i64 0) (.int .i64 0) (.string ⟨#[]⟩) (.slice none 0 0) (.slice none 0 0)).cells
            refine bodyPost_ret (v := .tuple #[.agg zeroL.toArray, .int .i64 141]) (by simp [results, Tryd.results23, go_sem, c4, zeroL]) rfl ⟨⟨m, HML.out, HMP.out, HMS.out, .inl ⟨⟨q, y, p, HY.out, by rw [HQ.out]; exact HP.out, HEQ.out⟩, rfl⟩⟩, ?_⟩
            exact below_only HBEL2.out (Only.fiveV _ _ _ _ _ _ _) HBEL2.out.size (by omega)
    · obtain rfl : k = n := by omega
      have g1 : ¬ ((k : Int) < (k : Int)) := by omega
      have hv := objVal HOB.out.kids HOB.out.keys HML.out (by have := HSM.out; unfold sortMost at this; omega) HBEL.out HFM.out HKM.out
      have hw := Tryd_whole (d + 1) _ 6 0 ⟨#[]⟩ kk k kc qk k qc wr hv (HN.out.ext HBEL.out)
      have HV := Lib.hid hv
      have q5 := HOB.out.box.cells
      have l5 := HOB.out.box.lt
      obtain ⟨r, hr⟩ : ∃ r, rightV (d + 1) (⟨6, 0, noStr, m.map f, m.map PairE.key⟩ : ValF (ValN d)) = r := ⟨_, rfl⟩
      rw [hr] at hw
      have HR := Lib.hid hr
      have HW := Lib.hid hw
      clear hv hw hr
      go_wp2_with fail
      refine HW.out.mono ?_; rintro e w3 ⟨rfl, hb3⟩
      have hz2 := HOB.out.zero.ext hb3
      have q2 := hz2.cells
      unfold zeroL at q2
      have m2 := hz2.marks
      have l2 := hz2.lt
      have HZ5 := Lib.hid hz2
      have HKI3 := Lib.hid (ownsRow_below HOB.out.kids hb3)
      have HKE3 := Lib.hid (ownsRow_below HOB.out.keys hb3)
      have HBEL3 := Lib.hid (HBEL.out.trans (hb3.mono HBEL.out.size))
      clear hz2 hb3 q5 l5 HV HW
      cases r with
      | true =>
        rw [show ∀ v, wholeV true v = .tuple #[v, .int .i64 0] from fun v => rfl]
        go_wp2
        have c4 := (HZ5.out.fiveV (.int .i64 6) (.int .i64 0) (.string ⟨#[]⟩) (.slice kk k kc) (.slice qk k qc)).cells
        refine bodyPost_ret (v := .tuple #[.agg #[.int .i64 6, .int .i64 0, .string ⟨#[]⟩, .slice kk k kc, .slice qk k qc], .int .i64 0]) (by simp [results, Tryd.results23, go_sem, c4, zeroL]) rfl ⟨⟨m, HML.out, HMP.out, HMS.out, .inr ⟨HND.out, _, objVal (ownsRow_onlyS HKI3.out (OnlyS.fiveS w3 w.heap.size _ _ _ _ _) (fun b hb e => by have := own_high HKI3.out hb; have := HB2.out.size; omega)) (ownsRow_onlyS HKE3.out (OnlyS.fiveS w3 w.heap.size _ _ _ _ _) (fun b hb e => by have := own_high HKE3.out hb; have := HB2.out.size; omega)) HML.out (by have := HSM.out; unfold sortMost at this; omega) ((OnlyS.fiveS w3 w.heap.size _ _ _ _ _).below_ HBEL3.out) HFM.out HKM.out, ?_⟩⟩, ?_⟩
        · rw [HR.out]; rfl
        exact below_only HBEL3.out (Only.fiveV _ _ _ _ _ _ _) HBEL3.out.size (by omega)
      | false =>
        rw [show ∀ v, wholeV false v = .tuple #[.agg #[.int .i64 0, .int .i64 0, .string ⟨#[]⟩, .slice none 0 0, .slice none 0 0], .int .i64 140] from fun v => rfl]
        go_wp2
        have c4 := (HZ5.out.fiveV (.int .i64 0) (.int .i64 0) (.string ⟨#[]⟩) (.slice none 0 0) (.slice none 0 0)).cells
        refine bodyPost_ret (v := .tuple #[.agg zeroL.toArray, .int .i64 140]) (by simp [results, Tryd.results23, go_sem, c4, zeroL]) rfl ⟨⟨m, HML.out, HMP.out, HMS.out, .inr ⟨HND.out, _, objVal (ownsRow_onlyS HKI3.out (OnlyS.fiveS w3 w.heap.size _ _ _ _ _) (fun b hb e => by have := own_high HKI3.out hb; have := HB2.out.size; omega)) (ownsRow_onlyS HKE3.out (OnlyS.fiveS w3 w.heap.size _ _ _ _ _) (fun b hb e => by have := own_high HKE3.out hb; have := HB2.out.size; omega)) HML.out (by have := HSM.out; unfold sortMost at this; omega) ((OnlyS.fiveS w3 w.heap.size _ _ _ _ _).below_ HBEL3.out) HFM.out HKM.out, ?_⟩⟩, ?_⟩
        · rw [HR.out]; rfl
        exact below_only HBEL3.out (Only.fiveV _ _ _ _ _ _ _) HBEL3.out.size (by omega)
end Go.Proofs.YtmcmknndhppljaaDoor
