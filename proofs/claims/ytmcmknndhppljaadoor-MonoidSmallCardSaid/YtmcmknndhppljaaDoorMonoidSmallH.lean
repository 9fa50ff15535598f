/-
  Layer 4: the program's way through a value, in plain, and the reference's.
  Layer 4: the program's test of one kind, and its measure, in plain.
  Layer 4: the program's test of one kind, walked.
  Layer 4: the program's test of an object, walked.
  Layer 4: the program's test of a value without a look at its kids, walked.
  Only some blocks are written.
-/
import Derived.Test.YtmcmknndhppljaaDoorMonoidSmallE
import Derived.Laws.BitsLemmas
import Derived.Test.YtmcmknndhppljaaDoorMonoidSmallG
import Derived.WalkLawsBesides
import Derived.BigQuiet
import Derived.LoopN
import Derived.Test.YtmcmknndhppljaaDoorMonoidSmallA
import Derived.Laws.EntriesVeiled
namespace Go.Dav
set_option linter.unusedVariables false
set_option linter.unusedSimpArgs false
open Go Go.RowKit
/-- A value without a look at its kids. -/
def topF {K : Type} (x : ValF K) : ValF Unit := ⟨x.kind, x.n, x.s, x.kids.map (fun _ => ()), x.keys⟩
theorem topF_alone {K : Type} (x : ValF K) : aloneB (topF x) = aloneB x := by
  unfold aloneB topF
  simp only [List.length_map]
/-- A value, and all that is within it, each with how many hold it. -/
def allV : (d : Nat) → Nat → ValN d → List (Nat × ValF Unit)
  | 0, L, _ => [(L, ⟨0, 0, default, [], []⟩)]
  | d + 1, L, x => (L, topF x.to) :: (x.to.kids.map (allV d (L + 1))).flatten
theorem allV_succ {d : Nat} (L : Nat) (x : ValN (d + 1)) : allV (d + 1) L x = (L, topF x.to) :: (x.to.kids.map (allV d (L + 1))).flatten := rfl
/-- Has a kind kids? -/
def holdsB (k : Int) : Bool := decide (k = 5) || decide (k = 6)
/-- Depth and nodes, one value on. -/
def metStep (s : Nat × Nat) (m : Nat × ValF Unit) : Nat × Nat := (if holdsB m.2.kind = true then max s.1 (m.1 + 1) else s.1, s.2 + 1)
def metOk (s : Nat × Nat) (m : Nat × ValF Unit) : Bool := decide (s.2 ≤ 256) && (decide (s.1 ≤ 8) && aloneB m.2)
/-- What is measured, up to what may not be. -/
def metGo : Nat × Nat → List (Nat × ValF Unit) → (Nat × Nat) × Bool
  | s, [] => (s, true)
  | s, m :: l => if metOk (metStep s m) m = true then metGo (metStep s m) l else (metStep s m, false)
def measV (d : Nat) (x : ValN d) : (Nat × Nat) × Bool := metGo (0, 0) (allV d 0 x)
/-- How many lists and objects stand within one another. -/
def depthV : (d : Nat) → ValN d → Nat
  | 0, _ => 0
  | d + 1, x => if x.to.kind < 5 then 0 else ((x.to.kids.map (depthV d)).foldr max 0) + 1
/-- How many values there are. -/
def nodesV : (d : Nat) → ValN d → Nat
  | 0, _ => 0
  | d + 1, x => 1 + (x.to.kids.map (nodesV d)).sum
theorem metGo_cons (s : Nat × Nat) (m : Nat × ValF Unit) (l : List (Nat × ValF Unit)) : metGo s (m :: l) = if metOk (metStep s m) m = true then metGo (metStep s m) l else (metStep s m, false) := rfl
theorem metGo_append : ∀ (l r : List (Nat × ValF Unit)) (s : Nat × Nat), metGo s (l ++ r) = if (metGo s l).2 = true then metGo (metGo s l).1 r else metGo s l
  | [], r, s => by simp [metGo]
  | m :: l, r, s => by
    rw [List.cons_append, metGo_cons, metGo_cons]
    by_cases h : metOk (metStep s m) m = true
    · rw [if_pos h, if_pos h]; exact metGo_append l r _
    · rw [if_neg h, if_neg h]; simp
theorem metGo_snoc {s : Nat × Nat} {l : List (Nat × ValF Unit)} {m : Nat × ValF Unit} (h : (metGo s l).2 = true) : metGo s (l ++ [m]) = (metStep (metGo s l).1 m, metOk (metStep (metGo s l).1 m) m) := by
  rw [metGo_append, if_pos h, metGo_cons]
  cases hk : metOk (metStep (metGo s l).1 m) m with
  | true => rw [if_pos rfl]; rfl
  | false => rw [if_neg (by decide)]
/-- Levels do not go far, where all that came may be. -/
def Lev (l : List (Nat × ValF Unit)) : Prop := ∀ s pre m post, l = pre ++ m :: post → (metGo s pre).2 = true → m.1 ≤ 8
theorem Lev.nil_ : Lev [] := fun s pre m post h _ => by
  have := congrArg List.length h
  simp at this
theorem Lev.append {l r : List (Nat × ValF Unit)} (h : Lev l) (k : Lev r) : Lev (l ++ r) := fun s pre m post e hg => by
  rcases List.append_eq_append_iff.1 e with ⟨a, h1, h2⟩ | ⟨c, h1, h2⟩
  · -- pre = l ++ a, r = a ++ m :: post
    rw [h1, metGo_append] at hg
    by_cases hl : (metGo s l).2 = true
    · rw [if_pos hl] at hg
      exact k _ a m post h2 hg
    · rw [if_neg hl] at hg; exact (hl hg).elim
  · -- l = pre ++ c, m :: post = c ++ r
    cases c with
    | nil =>
      rw [List.append_nil] at h1
      rw [List.nil_append] at h2
      subst h1
      exact k (metGo s l).1 [] m post h2.symm (by simp [metGo])
    | cons y ys =>
      rw [List.cons_append] at h2
      injection h2 with h3 h4
      subst h3
      exact h s pre m ys h1 hg
theorem Lev.flatten {K : Type} {f : K → List (Nat × ValF Unit)} : ∀ (l : List K), (∀ x ∈ l, Lev (f x)) → Lev (l.map f).flatten
  | [], _ => Lev.nil_
  | x :: l, h => by
    rw [List.map_cons, List.flatten_cons]
    exact (h x (List.mem_cons_self ..)).append (Lev.flatten l fun y hy => h y (List.mem_cons_of_mem _ hy))
theorem alone_holds {K : Type} {x : ValF K} (h : aloneB x = true) (hk : 5 ≤ x.kind) : holdsB x.kind = true := by
  unfold aloneB at h
  rw [Bool.and_eq_true] at h
  have h2 := h.2
  unfold holdsB
  simp only [Bool.or_eq_true, decide_eq_true_eq]
  by_cases h5 : x.kind = 5
  · exact .inl h5
  by_cases h6 : x.kind = 6
  · exact .inr h6
  rw [if_neg (by omega), if_neg (by omega), if_neg (by omega), if_neg (by omega), if_neg h5, if_neg h6] at h2
  cases h2
theorem holdsB_le {k : Int} : holdsB k = true → 5 ≤ k := by
  unfold holdsB
  simp only [Bool.or_eq_true, decide_eq_true_eq]
  omega
theorem allV_lev : ∀ (d : Nat) (x : ValN d) (L : Nat), L ≤ 8 → Lev (allV d L x)
  | 0, _, L, hL => fun s pre m post e hg => by
    have e : [(L, (⟨0, 0, default, [], []⟩ : ValF Unit))] = pre ++ m :: post := e
    cases pre with
    | nil =>
      rw [List.nil_append] at e
      injection e with e1 e2
      rw [← e1]; exact hL
    | cons p ps =>
      have := congrArg List.length e
      simp at this
  | d + 1, x, L, hL => fun s pre m post e hg => by
    rw [allV_succ] at e
    cases pre with
    | nil =>
      rw [List.nil_append] at e
      injection e with e1 e2
      rw [← e1]; exact hL
    | cons p ps =>
      rw [List.cons_append] at e
      injection e with e1 e2
      subst e1
      rw [metGo_cons] at hg
      by_cases hk : metOk (metStep s (L, topF x.to)) (L, topF x.to) = true
      · rw [if_pos hk] at hg
        unfold metOk at hk
        simp only [Bool.and_eq_true, decide_eq_true_eq] at hk
        obtain ⟨_, k2, k3⟩ := hk
        rw [topF_alone] at k3
        by_cases h0 : x.to.kids.length = 0
        · have : x.to.kids = [] := List.length_eq_zero_iff.1 h0
          rw [this] at e2
          have := congrArg List.length e2
          simp at this
        · have h5 := alone_holds k3 (alone_kids k3 h0)
          have hL8 : L + 1 ≤ 8 := by
            have h5' : holdsB (topF x.to).kind = true := h5
            unfold metStep at k2
            rw [if_pos h5'] at k2
            dsimp only at k2
            omega
          exact Lev.flatten x.to.kids (fun y _ => allV_lev d y (L + 1) hL8) _ ps m post e2 hg
      · rw [if_neg hk] at hg; cases hg
theorem meas_list {d : Nat} (hd : ∀ (x : ValN d) (L D n : Nat), L ≤ 8 → L ≤ D → D ≤ 8 → n ≤ 256 →
      (withinV d x (8 - L) (256 - (n : Int)) ≠ 0 → metGo (D, n) (allV d L x) = ((max D (L + depthV d x), n + withinV d x (8 - L) (256 - (n : Int))), true) ∧ L + depthV d x ≤ 8) ∧
      (withinV d x (8 - L) (256 - (n : Int)) = 0 → (metGo (D, n) (allV d L x)).2 = false)) (L n : Nat) (hL : L ≤ 8) :
    ∀ (l : List (ValN d)) (D k : Nat), L ≤ D → D ≤ 8 → n + k ≤ 256 → 1 ≤ k →
      (withinL (withinV d) (8 - L) (256 - (n : Int)) l k ≠ 0 → metGo (D, n + k) (l.map (allV d L)).flatten = ((max D (L + (l.map (depthV d)).foldr max 0), n + withinL (withinV d) (8 - L) (256 - (n : Int)) l k), true) ∧ L + (l.map (depthV d)).foldr max 0 ≤ 8) ∧
      (withinL (withinV d) (8 - L) (256 - (n : Int)) l k = 0 → (metGo (D, n + k) (l.map (allV d L)).flatten).2 = false)
  | [], D, k, h1, h2, h3, h4 => by
    refine ⟨fun _ => ⟨?_, by simpa using hL⟩, fun h => ?_⟩
    · show ((D, n + k), true) = ((max D (L + 0), n + k), true)
      rw [Nat.max_eq_left (by omega)]
    · have : k = 0 := h
      omega
  | y :: ys, D, k, h1, h2, h3, h4 => by
    have hy := hd y L D (n + k) hL h1 h2 h3
    rw [show (256 : Int) - ((n + k : Nat) : Int) = 256 - (n : Int) - (k : Int) by omega] at hy
    have hle := withinV_le d y (8 - L) (256 - (n : Int) - (k : Int))
    obtain ⟨a, ha⟩ : ∃ a, withinV d y (8 - L) (256 - (n : Int) - (k : Int)) = a := ⟨_, rfl⟩
    have e : withinL (withinV d) (8 - L) (256 - (n : Int)) (y :: ys) k = if a = 0 then 0 else withinL (withinV d) (8 - L) (256 - (n : Int)) ys (k + a) := by rw [← ha]; rfl
    rw [ha] at hy hle
    rw [e, List.map_cons, List.map_cons, List.flatten_cons, List.foldr_cons, metGo_append]
    by_cases h0 : a = 0
    · rw [if_pos h0]
      have hf := hy.2 h0
      refine ⟨fun h => (h rfl).elim, fun _ => ?_⟩
      rw [if_neg (by rw [hf]; decide)]
      exact hf
    · rw [if_neg h0]
      obtain ⟨g1, g2⟩ := hy.1 h0
      rw [g1]
      rw [if_pos rfl]
      have ih := meas_list hd L n hL ys (max D (L + depthV d y)) (k + a) (by omega) (by omega) (by omega) (by omega)
      rw [← Nat.add_assoc] at ih
      refine ⟨fun h => ?_, fun h => ih.2 h⟩
      obtain ⟨i1, i2⟩ := ih.1 h
      refine ⟨?_, by omega⟩
      rw [i1]
      congr 2
      omega
theorem meas_within : ∀ (d : Nat) (x : ValN d) (L D n : Nat), L ≤ 8 → L ≤ D → D ≤ 8 → n ≤ 256 →
      (withinV d x (8 - L) (256 - (n : Int)) ≠ 0 → metGo (D, n) (allV d L x) = ((max D (L + depthV d x), n + withinV d x (8 - L) (256 - (n : Int))), true) ∧ L + depthV d x ≤ 8) ∧
      (withinV d x (8 - L) (256 - (n : Int)) = 0 → (metGo (D, n) (allV d L x)).2 = false)
  | 0, x, L, D, n, _, _, _, _ => by
    refine ⟨fun h => (h rfl).elim, fun _ => ?_⟩
    show (metGo (D, n) [(L, (⟨0, 0, default, [], []⟩ : ValF Unit))]).2 = false
    rw [metGo_cons, if_neg]
    have : aloneB (⟨0, 0, default, [], []⟩ : ValF Unit) = false := by simp [aloneB]
    unfold metOk
    dsimp only
    rw [this]
    simp
  | d + 1, x, L, D, n, hL, h1, h2, h3 => by
    rw [allV_succ, metGo_cons]
    obtain ⟨s, hs⟩ : ∃ s, metStep (D, n) (L, topF x.to) = s := ⟨_, rfl⟩
    have hs1 : s.1 = if holdsB x.to.kind = true then max D (L + 1) else D := by rw [← hs]; rfl
    have hs2 : s.2 = n + 1 := by rw [← hs]; rfl
    rw [hs]
    by_cases hno : (256 - (n : Int)) < 1 ∨ aloneB x.to = false ∨ (5 ≤ x.to.kind ∧ 8 - L = 0)
    · rw [withinV_no hno]
      refine ⟨fun h => (h rfl).elim, fun _ => ?_⟩
      rw [if_neg]
      intro hk
      unfold metOk at hk
      simp only [Bool.and_eq_true, decide_eq_true_eq] at hk
      obtain ⟨k1, k2, k3⟩ := hk
      rw [topF_alone] at k3
      rcases hno with h | h | ⟨h, h'⟩
      · omega
      · rw [h] at k3; cases k3
      · rw [if_pos (alone_holds k3 h)] at hs1
        omega
    · rw [withinV_yes hno]
      have k0 : ¬ (256 - (n : Int)) < 1 := fun h => hno (.inl h)
      have k3 : aloneB x.to = true := by
        cases h : aloneB x.to with
        | true => rfl
        | false => exact (hno (.inr (.inl h))).elim
      have k4 : 5 ≤ x.to.kind → L ≤ 7 := fun h => by
        by_cases h' : 8 - L = 0
        · exact (hno (.inr (.inr ⟨h, h'⟩))).elim
        · omega
      have hok : metOk s (L, topF x.to) = true := by
        unfold metOk
        simp only [Bool.and_eq_true, decide_eq_true_eq]
        refine ⟨by omega, ?_, by rw [topF_alone]; exact k3⟩
        rw [hs1]
        split
        · rename_i hh
          have := k4 (holdsB_le hh)
          omega
        · omega
      rw [if_pos hok]
      have hs' : s = (s.1, n + 1) := by rw [← hs2]
      rw [hs']
      by_cases hk : x.to.kind < 5
      · have hh : ¬ holdsB x.to.kind = true := fun h => by have := holdsB_le h; omega
        rw [if_neg hh] at hs1
        have hkids : x.to.kids = [] := by
          cases hx : x.to.kids with
          | nil => rfl
          | cons y ys =>
            have := alone_kids k3 (by rw [hx]; simp)
            omega
        have hdep : depthV (d + 1) x = 0 := by
          show (if x.to.kind < 5 then 0 else _) = 0
          rw [if_pos hk]
        rw [hkids, hdep, hs1]
        refine ⟨fun _ => ⟨?_, by omega⟩, fun h => by cases h⟩
        show ((D, n + 1), true) = ((max D (L + 0), n + 1), true)
        rw [Nat.max_eq_left (by omega)]
      · have h5 : 5 ≤ x.to.kind := by omega
        have hL7 := k4 h5
        rw [if_pos (alone_holds k3 h5)] at hs1
        have hdep : depthV (d + 1) x = (x.to.kids.map (depthV d)).foldr max 0 + 1 := by
          show (if x.to.kind < 5 then 0 else _) = _
          rw [if_neg hk]
        have ih := meas_list (meas_within d) (L + 1) n (by omega) x.to.kids (max D (L + 1)) 1 (by omega) (by omega) (by omega) (by omega)
        rw [show 8 - L - 1 = 8 - (L + 1) by omega, hdep, hs1]
        refine ⟨fun h => ?_, ih.2⟩
        obtain ⟨i1, i2⟩ := ih.1 h
        refine ⟨?_, by omega⟩
        rw [i1]
        congr 2
        omega
theorem within_nodesL {d : Nat} (hd : ∀ (x : ValN d) (L : Nat) (m : Int), withinV d x L m ≠ 0 → withinV d x L m = nodesV d x) (L : Nat) (m : Int) : ∀ (l : List (ValN d)) (k : Nat), withinL (withinV d) L m l k ≠ 0 → withinL (withinV d) L m l k = k + (l.map (nodesV d)).sum
  | [], k, _ => by simp [withinL]
  | y :: ys, k, h => by
    have e : withinL (withinV d) L m (y :: ys) k = if withinV d y L (m - k) = 0 then 0 else withinL (withinV d) L m ys (k + withinV d y L (m - k)) := rfl
    rw [e] at h ⊢
    by_cases h0 : withinV d y L (m - k) = 0
    · rw [if_pos h0] at h; exact (h rfl).elim
    · rw [if_neg h0] at h ⊢
      rw [within_nodesL hd L m ys _ h, hd y L _ h0, List.map_cons, List.sum_cons]
      omega
theorem within_nodes : ∀ (d : Nat) (x : ValN d) (L : Nat) (m : Int), withinV d x L m ≠ 0 → withinV d x L m = nodesV d x
  | 0, _, _, _, h => (h rfl).elim
  | d + 1, x, L, m, h => by
    by_cases hno : m < 1 ∨ aloneB x.to = false ∨ (5 ≤ x.to.kind ∧ L = 0)
    · rw [withinV_no hno] at h; exact (h rfl).elim
    · rw [withinV_yes hno] at h ⊢
      exact within_nodesL (within_nodes d) _ _ _ _ h
/-- What the program measures: a right value's depth and nodes. -/
theorem meas_right {d : Nat} {x : ValN d} (h : rightV d x = true) : measV d x = ((depthV d x, nodesV d x), true) ∧ depthV d x ≤ 8 ∧ 1 ≤ nodesV d x ∧ nodesV d x ≤ 256 := by
  unfold rightV at h
  rw [decide_eq_true_eq] at h
  have h0 : withinV d x (8 - 0) (256 - ((0 : Nat) : Int)) ≠ 0 := by simpa using (by omega : withinV d x 8 256 ≠ 0)
  have hle := withinV_le d x 8 256
  have hn := within_nodes d x 8 256 (by omega)
  obtain ⟨h1, h2⟩ := (meas_within d x 0 0 0 (by omega) (by omega) (by omega) (by omega)).1 h0
  refine ⟨?_, by omega, by omega, by omega⟩
  unfold measV
  rw [h1]
  rw [show withinV d x (8 - 0) (256 - ((0 : Nat) : Int)) = withinV d x 8 256 from rfl, hn]
  simp
theorem meas_wrong {d : Nat} {x : ValN d} (h : rightV d x = false) : (measV d x).2 = false := by
  unfold rightV at h
  rw [decide_eq_false_iff_not] at h
  exact (meas_within d x 0 0 0 (by omega) (by omega) (by omega) (by omega)).2 (by show withinV d x 8 256 = 0; omega)
theorem meas_ok (d : Nat) (x : ValN d) : (measV d x).2 = rightV d x := by
  cases h : rightV d x with
  | true => rw [(meas_right h).1]
  | false => exact meas_wrong h
end Go.Dav

namespace Go.Dav
set_option linter.unusedVariables false
set_option linter.unusedSimpArgs false
open Go Go.RowKit
theorem bits_one (n : Int) : bits .and .i64 n 1 = 0 ∨ bits .and .i64 n 1 = 1 := by
  unfold bits
  have h : ((BitVec.ofInt IntKind.i64.bits n) &&& (BitVec.ofInt IntKind.i64.bits 1)).toNat < 2 := by
    rw [BitVec.toNat_and, show (BitVec.ofInt IntKind.i64.bits 1).toNat = 1 from by decide, Nat.and_one_is_mod]
    exact Nat.mod_lt _ (by decide)
  dsimp only
  generalize ((BitVec.ofInt IntKind.i64.bits n) &&& (BitVec.ofInt IntKind.i64.bits 1)).toNat = k at h
  rcases (by omega : k = 0 ∨ k = 1) with rfl | rfl
  · exact .inl (by decide)
  · exact .inr (by decide)
theorem bits_one0 : bits .and .i64 0 1 = 0 := by decide
theorem bits_one1 : bits .and .i64 1 1 = 1 := by decide
theorem truth_eq (n : Int) : decide (n = bits .and .i64 n 1) = (decide (n = 0) || decide (n = 1)) := by
  by_cases h0 : n = 0
  · subst h0; rw [bits_one0]; decide
  · by_cases h1 : n = 1
    · subst h1; rw [bits_one1]; decide
    · rw [decide_eq_false h0, decide_eq_false h1, decide_eq_false]
      · rfl
      · intro h
        rcases bits_one n with h2 | h2 <;> omega
/-- Has a value nothing besides what its kind has? -/
def bareB {K : Type} (x : ValF K) (n : Int) (s : ByteArray) (k : Nat) : Bool := decide (x.n = n) && (x.s.toList == s.toList && (decide (x.kids.length = k) && decide (x.keys.length = 0)))
/-- .. and the program's test of each kind. -/
def objB {K : Type} (x : ValF K) : Bool := keysTo x.keys x.keys.length && (decide (x.n = 0) && (strEmpty x.s && decide (x.kids.length = x.keys.length)))
def kindB {K : Type} (x : ValF K) : Bool :=
  if x.kind = 1 then bareB x 0 ⟨#[]⟩ 0
  else if x.kind = 2 then bareB x (bits .and .i64 x.n 1) ⟨#[]⟩ 0
  else if x.kind = 3 then bareB x x.n ⟨#[]⟩ 0
  else if x.kind = 4 then validB x.s.data.toList && bareB x 0 x.s 0
  else if x.kind = 5 then bareB x 0 ⟨#[]⟩ x.kids.length
  else if x.kind = 6 then objB x
  else false
theorem strEmpty_default (s : ByteArray) : (s.toList == (⟨#[]⟩ : ByteArray).toList) = strEmpty s := by
  unfold strEmpty
  rw [show (⟨#[]⟩ : ByteArray).toList = [] from by simp]
theorem str_self (s : ByteArray) : (s.toList == s.toList) = true := by simp
theorem keys_none {K : Type} {x : ValF K} (h : decide (x.keys.length = 0) = true) : keysTo x.keys x.keys.length = true := by
  rw [decide_eq_true_eq] at h; rw [h]; rfl
theorem kindB_alone {K : Type} (x : ValF K) : kindB x = aloneB x := by
  unfold kindB aloneB bareB objB
  simp only [strEmpty_default, str_self, Bool.true_and, truth_eq]
  by_cases hk : x.keys.length = 0
  · have hq : keysTo x.keys x.keys.length = true := keys_none (decide_eq_true hk)
    simp only [hq, Bool.true_and, decide_true]
    repeat' split
    all_goals first | rfl | (cases decide (x.n = 0) <;> cases strEmpty x.s <;> cases validB x.s.data.toList <;> simp)
  · simp only [decide_eq_false hk, Bool.and_false, if_false]
    repeat' split
    all_goals first | rfl | simp
/-- A step of the measure, with int's own sums. -/
def metStepW (s : Int × Int) (m : Nat × ValF Unit) : Int × Int := (if holdsB m.2.kind = true then max s.1 (IntKind.i64.wrap (IntKind.i64.wrap (m.1 : Int) + 1)) else s.1, s.2 + 1)
def metOkW (s : Int × Int) (m : Nat × ValF Unit) : Bool := decide (s.2 ≤ 256) && (decide (s.1 ≤ 8) && aloneB m.2)
theorem Lev.prefix_ {l r : List (Nat × ValF Unit)} (h : Lev (l ++ r)) : Lev l := fun s pre m post e hg => h s pre m (post ++ r) (by rw [e]; simp) hg
/-- The rounds that have been, all of them good; what they have measured. -/
structure MetIs (D n : Int) (pre : List (Nat × ValF Unit)) : Prop where
  many : n = (pre.length : Int)
  lo : 0 ≤ D
  hi : D ≤ 8
  few : n ≤ 256
  go : Lev pre → ∃ a b : Nat, metGo (0, 0) pre = ((a, b), true) ∧ (a : Int) = D ∧ (b : Int) = n
theorem MetIs.nil_ : MetIs 0 0 [] := ⟨rfl, by omega, by omega, by omega, fun _ => ⟨0, 0, rfl, rfl, rfl⟩⟩
theorem met_step {s : Nat × Nat} {D n : Int} (h1 : (s.1 : Int) = D) (h2 : (s.2 : Int) = n) (h8 : D ≤ 8) {m : Nat × ValF Unit} (hm : m.1 ≤ 8) :
    (((metStep s m).1 : Nat) : Int) = (metStepW (D, n) m).1 ∧ (((metStep s m).2 : Nat) : Int) = (metStepW (D, n) m).2 ∧ metOk (metStep s m) m = metOkW (metStepW (D, n) m) m := by
  have w1 : IntKind.i64.wrap (m.1 : Int) = (m.1 : Int) := IntWalk.i64_in _ (by omega)
  have w2 : IntKind.i64.wrap ((m.1 : Int) + 1) = (m.1 : Int) + 1 := IntWalk.i64_in _ (by omega)
  have e1 : (((metStep s m).1 : Nat) : Int) = (metStepW (D, n) m).1 := by
    unfold metStep metStepW
    dsimp only
    rw [w1, w2]
    split <;> omega
  have e2 : (((metStep s m).2 : Nat) : Int) = (metStepW (D, n) m).2 := by
    unfold metStep metStepW
    dsimp only
    omega
  refine ⟨e1, e2, ?_⟩
  unfold metOk metOkW
  rw [← e1, ← e2]
  rw [show decide ((metStep s m).2 ≤ 256) = decide ((((metStep s m).2 : Nat) : Int) ≤ 256) from decide_eq_decide.2 (by omega), show decide ((metStep s m).1 ≤ 8) = decide ((((metStep s m).1 : Nat) : Int) ≤ 8) from decide_eq_decide.2 (by omega)]
theorem MetIs.snoc {D n D' n' : Int} {pre : List (Nat × ValF Unit)} {m : Nat × ValF Unit} (h : MetIs D n pre) (hs : metStepW (D, n) m = (D', n')) (hk : metOkW (D', n') m = true) : MetIs D' n' (pre ++ [m]) := by
  have e1 : D' = (metStepW (D, n) m).1 := by rw [hs]
  have e2 : n' = n + 1 := by have : n' = (metStepW (D, n) m).2 := by rw [hs]
                             exact this
  have hk' := hk
  unfold metOkW at hk'
  simp only [Bool.and_eq_true, decide_eq_true_eq] at hk'
  refine ⟨by rw [e2, h.many, List.length_append]; simp, ?_, hk'.2.1, hk'.1, fun hl => ?_⟩
  · have := h.lo
    rw [e1]; unfold metStepW; dsimp only; split <;> omega
  · obtain ⟨a, b, h1, h2, h3⟩ := h.go hl.prefix_
    have hm : m.1 ≤ 8 := hl (0, 0) pre m [] rfl (by rw [h1])
    obtain ⟨g1, g2, g3⟩ := met_step (s := (a, b)) h2 h3 h.hi hm
    rw [hs] at g1 g2 g3
    rw [metGo_snoc (by rw [h1]), h1]
    exact ⟨(metStep (a, b) m).1, (metStep (a, b) m).2, by rw [g3, hk], g1, g2⟩
theorem met_done {d : Nat} {x : ValN d} {D n : Int} (h : MetIs D n (allV d 0 x)) : rightV d x = true ∧ D = (depthV d x : Int) ∧ n = (nodesV d x : Int) := by
  obtain ⟨a, b, h1, h2, h3⟩ := h.go (allV_lev d x 0 (by omega))
  have hr : rightV d x = true := by rw [← meas_ok]; unfold measV; rw [h1]
  have hm := (meas_right hr).1
  unfold measV at hm
  rw [h1] at hm
  have : a = depthV d x ∧ b = nodesV d x := by simpa using hm
  exact ⟨hr, by omega, by omega⟩
theorem met_stop {d : Nat} {x : ValN d} {D n : Int} {pre : List (Nat × ValF Unit)} {m : Nat × ValF Unit} (h : MetIs D n pre) (hk : metOkW (metStepW (D, n) m) m = false) (hp : pre ++ [m] <+: allV d 0 x) : rightV d x = false := by
  obtain ⟨r, hr⟩ := hp
  have hl : Lev (pre ++ [m]) := Lev.prefix_ (r := r) (by rw [hr]; exact allV_lev d x 0 (by omega))
  obtain ⟨a, b, h1, h2, h3⟩ := h.go hl.prefix_
  have hm : m.1 ≤ 8 := hl (0, 0) pre m [] rfl (by rw [h1])
  obtain ⟨_, _, g3⟩ := met_step (s := (a, b)) h2 h3 h.hi hm
  rw [← meas_ok]
  unfold measV
  rw [← hr, metGo_append, if_neg (by rw [metGo_snoc (by rw [h1]), h1, g3, hk]; simp), metGo_snoc (by rw [h1]), h1, g3, hk]
end Go.Dav

namespace Go.Dav
set_option linter.unusedVariables false
set_option linter.unusedSimpArgs false
open Go Go.RowKit
theorem and_no {a b : Bool} (h : a = false) : (a && b) = false := by rw [h]; rfl
end Go.Dav
namespace Go.Proofs.YtmcmknndhppljaaDoor
set_option linter.unusedVariables false
set_option linter.unusedSimpArgs false
open Go.RowKit Go.Dav
attribute [local go_sem] Gives ite_val ite_val_true

set_option maxRecDepth 8000 in
set_option maxHeartbeats 4000000 in
theorem Tryd_bare (kind n m : Int) (s t : ByteArray) (ka qa : Option Addr) (kl kc ql qc k : Nat) (w : World) :
    Calls Tryd.prog 111 #[.agg #[.int .i64 kind, .int .i64 n, .string s, .slice ka kl kc, .slice qa ql qc], .int .i64 m, .string t, .int .i64 (k : Int)] w fun e w' => e = .returned (.bool (decide (n = m) && (s.toList == t.toList && (decide (kl = k) && decide (ql = 0))))) ∧ Below w.heap.size w w' := by
  by_cases h1 : n = m
  · subst h1
    rw [decide_eq_true rfl, Bool.true_and]
    have g1 : (n == n) = true := by simp
    cases h2 : (s.toList == t.toList) with
    | true =>
      rw [Bool.true_and]
      by_cases h3 : kl = k
      · subst h3
        rw [decide_eq_true rfl, Bool.true_and]
        by_cases h4 : ql = 0
        · subst h4
          go_enter Tryd.func111, Tryd.ntmps111
          go_wp2
          go_ret
          exact ⟨rfl, (by repeat (first | (with_reducible exact Below.refl _ _) | (with_reducible exact Below.refl _ _) | (with_reducible refine Below.setCell ?_ (by first | omega | (simp; done) | (simp; omega)) _) | (with_reducible refine Below.alloc ?_ (by first | omega | (simp; done) | (simp; omega)) _) | (with_reducible refine Below.drew ?_) | (with_reducible refine below_drewN ?_ _)))⟩
        · rw [decide_eq_false h4]
          have g4 : ((ql : Int) == 0) = false := by rw [beq_eq_false_iff_ne]; omega
          clear h4
          go_enter Tryd.func111, Tryd.ntmps111
          go_wp2
          go_ret
          exact ⟨rfl, (by repeat (first | (with_reducible exact Below.refl _ _) | (with_reducible exact Below.refl _ _) | (with_reducible refine Below.setCell ?_ (by first | omega | (simp; done) | (simp; omega)) _) | (with_reducible refine Below.alloc ?_ (by first | omega | (simp; done) | (simp; omega)) _) | (with_reducible refine Below.drew ?_) | (with_reducible refine below_drewN ?_ _)))⟩
      · rw [decide_eq_false h3, Bool.false_and]
        have g3 : ((kl : Int) == (k : Int)) = false := by rw [beq_eq_false_iff_ne]; omega
        clear h3
        go_enter Tryd.func111, Tryd.ntmps111
        go_wp2
        go_ret
        exact ⟨rfl, (by repeat (first | (with_reducible exact Below.refl _ _) | (with_reducible exact Below.refl _ _) | (with_reducible refine Below.setCell ?_ (by first | omega | (simp; done) | (simp; omega)) _) | (with_reducible refine Below.alloc ?_ (by first | omega | (simp; done) | (simp; omega)) _) | (with_reducible refine Below.drew ?_) | (with_reducible refine below_drewN ?_ _)))⟩
    | false =>
      rw [Bool.false_and]
      go_enter Tryd.func111, Tryd.ntmps111
      go_wp2
      go_ret
      exact ⟨rfl, (by repeat (first | (with_reducible exact Below.refl _ _) | (with_reducible exact Below.refl _ _) | (with_reducible refine Below.setCell ?_ (by first | omega | (simp; done) | (simp; omega)) _) | (with_reducible refine Below.alloc ?_ (by first | omega | (simp; done) | (simp; omega)) _) | (with_reducible refine Below.drew ?_) | (with_reducible refine below_drewN ?_ _)))⟩
  · rw [decide_eq_false h1, Bool.false_and]
    go_enter Tryd.func111, Tryd.ntmps111
    go_wp2
    go_ret
    exact ⟨rfl, (by repeat (first | (with_reducible exact Below.refl _ _) | (with_reducible exact Below.refl _ _) | (with_reducible refine Below.setCell ?_ (by first | omega | (simp; done) | (simp; omega)) _) | (with_reducible refine Below.alloc ?_ (by first | omega | (simp; done) | (simp; omega)) _) | (with_reducible refine Below.drew ?_) | (with_reducible refine below_drewN ?_ _)))⟩

theorem Tryd_knull (kind n : Int) (s : ByteArray) (ka qa : Option Addr) (kl kc ql qc : Nat) (w : World) :
    Calls Tryd.prog 101 #[.agg #[.int .i64 kind, .int .i64 n, .string s, .slice ka kl kc, .slice qa ql qc]] w fun e w' => e = .returned (.bool (decide (n = 0) && (s.toList == (⟨#[]⟩ : ByteArray).toList && (decide (kl = 0) && decide (ql = 0))))) ∧ Below w.heap.size w w' := by
  obtain ⟨r, hr⟩ : ∃ r, (decide (n = 0) && (s.toList == (⟨#[]⟩ : ByteArray).toList && (decide (kl = 0) && decide (ql = 0)))) = r := ⟨_, rfl⟩
  have HC := Lib.hid (fun W => Tryd_bare kind n 0 s ⟨#[]⟩ ka qa kl kc ql qc 0 W)
  rw [hr] at HC ⊢
  clear hr
  go_enter Tryd.func101, Tryd.ntmps101
  go_wp2_with fail
  refine (HC.out _).mono ?_; rintro e w1 ⟨rfl, hb1⟩
  go_wp2
  go_ret
  exact ⟨rfl, (by repeat (first | (with_reducible exact Below.refl _ _) | (with_reducible exact Below.refl _ _) | (with_reducible refine Below.setCell ?_ (by first | omega | (simp; done) | (simp; omega)) _) | (with_reducible refine Below.alloc ?_ (by first | omega | (simp; done) | (simp; omega)) _) | (with_reducible refine Below.drew ?_) | (with_reducible refine below_drewN ?_ _) | (with_reducible refine Below.trans ?_ (hb1.mono (by first | omega | (simp; done) | (simp; omega))))))⟩

theorem Tryd_ktruth (kind n : Int) (s : ByteArray) (ka qa : Option Addr) (kl kc ql qc : Nat) (w : World) :
    Calls Tryd.prog 102 #[.agg #[.int .i64 kind, .int .i64 n, .string s, .slice ka kl kc, .slice qa ql qc]] w fun e w' => e = .returned (.bool (decide (n = bits .and .i64 n 1) && (s.toList == (⟨#[]⟩ : ByteArray).toList && (decide (kl = 0) && decide (ql = 0))))) ∧ Below w.heap.size w w' := by
  obtain ⟨r, hr⟩ : ∃ r, (decide (n = bits .and .i64 n 1) && (s.toList == (⟨#[]⟩ : ByteArray).toList && (decide (kl = 0) && decide (ql = 0)))) = r := ⟨_, rfl⟩
  have HC := Lib.hid (fun W => Tryd_bare kind n (bits .and .i64 n 1) s ⟨#[]⟩ ka qa kl kc ql qc 0 W)
  rw [hr] at HC ⊢
  clear hr
  go_enter Tryd.func102, Tryd.ntmps102
  go_wp2_with fail
  refine (HC.out _).mono ?_; rintro e w1 ⟨rfl, hb1⟩
  go_wp2
  go_ret
  exact ⟨rfl, (by repeat (first | (with_reducible exact Below.refl _ _) | (with_reducible exact Below.refl _ _) | (with_reducible refine Below.setCell ?_ (by first | omega | (simp; done) | (simp; omega)) _) | (with_reducible refine Below.alloc ?_ (by first | omega | (simp; done) | (simp; omega)) _) | (with_reducible refine Below.drew ?_) | (with_reducible refine below_drewN ?_ _) | (with_reducible refine Below.trans ?_ (hb1.mono (by first | omega | (simp; done) | (simp; omega))))))⟩

theorem Tryd_knumber (kind n : Int) (s : ByteArray) (ka qa : Option Addr) (kl kc ql qc : Nat) (w : World) :
    Calls Tryd.prog 103 #[.agg #[.int .i64 kind, .int .i64 n, .string s, .slice ka kl kc, .slice qa ql qc]] w fun e w' => e = .returned (.bool (decide (n = n) && (s.toList == (⟨#[]⟩ : ByteArray).toList && (decide (kl = 0) && decide (ql = 0))))) ∧ Below w.heap.size w w' := by
  obtain ⟨r, hr⟩ : ∃ r, (decide (n = n) && (s.toList == (⟨#[]⟩ : ByteArray).toList && (decide (kl = 0) && decide (ql = 0)))) = r := ⟨_, rfl⟩
  have HC := Lib.hid (fun W => Tryd_bare kind n n s ⟨#[]⟩ ka qa kl kc ql qc 0 W)
  rw [hr] at HC ⊢
  clear hr
  go_enter Tryd.func103, Tryd.ntmps103
  go_wp2_with fail
  refine (HC.out _).mono ?_; rintro e w1 ⟨rfl, hb1⟩
  go_wp2
  go_ret
  exact ⟨rfl, (by repeat (first | (with_reducible exact Below.refl _ _) | (with_reducible exact Below.refl _ _) | (with_reducible refine Below.setCell ?_ (by first | omega | (simp; done) | (simp; omega)) _) | (with_reducible refine Below.alloc ?_ (by first | omega | (simp; done) | (simp; omega)) _) | (with_reducible refine Below.drew ?_) | (with_reducible refine below_drewN ?_ _) | (with_reducible refine Below.trans ?_ (hb1.mono (by first | omega | (simp; done) | (simp; omega))))))⟩

theorem Tryd_klist (kind n : Int) (s : ByteArray) (ka qa : Option Addr) (kl kc ql qc : Nat) (w : World) :
    Calls Tryd.prog 105 #[.agg #[.int .i64 kind, .int .i64 n, .string s, .slice ka kl kc, .slice qa ql qc]] w fun e w' => e = .returned (.bool (decide (n = 0) && (s.toList == (⟨#[]⟩ : ByteArray).toList && (decide (kl = kl) && decide (ql = 0))))) ∧ Below w.heap.size w w' := by
  obtain ⟨r, hr⟩ : ∃ r, (decide (n = 0) && (s.toList == (⟨#[]⟩ : ByteArray).toList && (decide (kl = kl) && decide (ql = 0)))) = r := ⟨_, rfl⟩
  have HC := Lib.hid (fun W => Tryd_bare kind n 0 s ⟨#[]⟩ ka qa kl kc ql qc kl W)
  rw [hr] at HC ⊢
  clear hr
  go_enter Tryd.func105, Tryd.ntmps105
  go_wp2_with fail
  refine (HC.out _).mono ?_; rintro e w1 ⟨rfl, hb1⟩
  go_wp2
  go_ret
  exact ⟨rfl, (by repeat (first | (with_reducible exact Below.refl _ _) | (with_reducible exact Below.refl _ _) | (with_reducible refine Below.setCell ?_ (by first | omega | (simp; done) | (simp; omega)) _) | (with_reducible refine Below.alloc ?_ (by first | omega | (simp; done) | (simp; omega)) _) | (with_reducible refine Below.drew ?_) | (with_reducible refine below_drewN ?_ _) | (with_reducible refine Below.trans ?_ (hb1.mono (by first | omega | (simp; done) | (simp; omega))))))⟩


set_option maxRecDepth 8000 in
set_option maxHeartbeats 4000000 in
theorem Tryd_ktext (kind n : Int) (s : ByteArray) (ka qa : Option Addr) (kl kc ql qc : Nat) (w : World) (hs : s.size ≤ 17592186044416) (hN : GlobAt w 0 [.int .i64 0, .int .i64 0] 143) :
    Calls Tryd.prog 104 #[.agg #[.int .i64 kind, .int .i64 n, .string s, .slice ka kl kc, .slice qa ql qc]] w fun e w' => e = .returned (.bool (validB s.data.toList && (decide (n = 0) && (s.toList == s.toList && (decide (kl = 0) && decide (ql = 0)))))) ∧ Below w.heap.size w w' := by
  obtain ⟨r, hr⟩ : ∃ r, (decide (n = 0) && (s.toList == s.toList && (decide (kl = 0) && decide (ql = 0)))) = r := ⟨_, rfl⟩
  have HC := Lib.hid (fun W => Tryd_bare kind n 0 s s ka qa kl kc ql qc 0 W)
  rw [hr] at HC ⊢
  clear hr
  obtain ⟨vb, hvb⟩ : ∃ v, validB s.data.toList = v := ⟨_, rfl⟩
  rw [hvb]
  obtain ⟨W0, hW0⟩ : ∃ W0, w.alloc (.cells #[.int .i64 kind, .int .i64 n, .string s, .slice ka kl kc, .slice qa ql qc] 129) = W0 := ⟨_, rfl⟩
  have hb0 : Below w.heap.size w W0 := by rw [← hW0]; exact (by repeat (first | (with_reducible exact Below.refl _ _) | (with_reducible exact Below.refl _ _) | (with_reducible refine Below.setCell ?_ (by first | omega | (simp; done) | (simp; omega)) _) | (with_reducible refine Below.alloc ?_ (by first | omega | (simp; done) | (simp; omega)) _) | (with_reducible refine Below.drew ?_) | (with_reducible refine below_drewN ?_ _)))
  have HQ := Lib.hid (show Blk W0 w.heap.size [.int .i64 kind, .int .i64 n, .string s, .slice ka kl kc, .slice qa ql qc] 129 by rw [← hW0]; exact Blk.new _ _ _)
  have hu := Tryd_uCheck s W0 hs (hN.ext hb0)
  rw [hvb] at hu
  have HU := Lib.hid hu
  have HB0 := Lib.hid hb0
  have HW0 := Lib.hid hW0
  clear hW0 hb0 hN hu hvb
  go_enter Tryd.func104, Tryd.ntmps104
  go_wp2_with fail
  rw [HW0.out]
  refine HU.out.mono ?_; rintro e w1 ⟨⟨a, rfl⟩, hb1⟩
  have hq := HQ.out.ext hb1
  have q1 := hq.cells
  have l1 := hq.lt
  have HB1 := Lib.hid (HB0.out.trans (hb1.mono HB0.out.size))
  clear hq hb1 HQ HU
  cases vb with
  | true =>
    simp only [if_true, Bool.true_and]
    go_wp2_with fail
    refine (HC.out _).mono ?_; rintro e w2 ⟨rfl, hb2⟩
    have HB2 := Lib.hid (HB1.out.trans (hb2.mono HB1.out.size))
    clear hb2
    go_wp2
    go_ret
    exact ⟨rfl, HB2.out⟩
  | false =>
    simp only [Bool.false_eq_true, if_false, Bool.false_and]
    go_wp2
    go_ret
    exact ⟨rfl, HB1.out⟩
end Go.Proofs.YtmcmknndhppljaaDoor

namespace Go.Proofs.YtmcmknndhppljaaDoor
set_option linter.unusedVariables false
set_option linter.unusedSimpArgs false
open Go.RowKit Go.Dav
attribute [local go_sem] Gives ite_val ite_val_true

set_option maxRecDepth 8000 in
set_option maxHeartbeats 8000000 in
theorem Tryd_kobject (kind n : Int) (s : ByteArray) (ka qa : Option Addr) (kl kc ql qc : Nat) (keys : List ByteArray) (w : World) (hK : StrsAt w qa ql qc keys) (hN : GlobAt w 0 [.int .i64 0, .int .i64 0] 143) :
    Calls Tryd.prog 106 #[.agg #[.int .i64 kind, .int .i64 n, .string s, .slice ka kl kc, .slice qa ql qc]] w fun e w' => e = .returned (.bool (keysTo keys ql && (decide (n = 0) && (s.toList == (⟨#[]⟩ : ByteArray).toList && decide (kl = ql))))) ∧ Below w.heap.size w w' := by
  have hql := hK.hlen
  have hqf := hK.hfew
  obtain ⟨r, hr⟩ : ∃ r, (keysTo keys ql && (decide (n = 0) && (s.toList == (⟨#[]⟩ : ByteArray).toList && decide (kl = ql)))) = r := ⟨_, rfl⟩
  rw [hr]
  have HR := Lib.hid hr
  obtain ⟨W0, hW0⟩ : ∃ W0, w.alloc (.cells #[.int .i64 kind, .int .i64 n, .string s, .slice ka kl kc, .slice qa ql qc] 129) = W0 := ⟨_, rfl⟩
  have bel0 : Below w.heap.size w W0 := by rw [← hW0]; exact (by repeat (first | (with_reducible exact Below.refl _ _) | (with_reducible exact Below.refl _ _) | (with_reducible refine Below.setCell ?_ (by first | omega | (simp; done) | (simp; omega)) _) | (with_reducible refine Below.alloc ?_ (by first | omega | (simp; done) | (simp; omega)) _) | (with_reducible refine Below.drew ?_) | (with_reducible refine below_drewN ?_ _)))
  have hq0 : Blk W0 w.heap.size [.int .i64 kind, .int .i64 n, .string s, .slice ka kl kc, .slice qa ql qc] 129 := by rw [← hW0]; exact Blk.new _ _ _
  have HB0 := Lib.hid hq0
  have HKS := Lib.hid (hK.ext bel0)
  have BEL0 := Lib.hid bel0
  have HW0 := Lib.hid hW0
  have HQL := Lib.hid hql
  have HN := Lib.hid (hN.ext bel0)
  have q1 := hq0.cells
  have l1 := hq0.lt
  clear hr hql hK bel0 hW0 hN hq0
  go_enter Tryd.func106, Tryd.ntmps106
  go_wp2_with fail
  rw [HW0.out]
  go_wp2_with fail
  clear q1 l1
  go_loopw [10] (fun ix wr => ∃ i : Nat, i ≤ ql ∧ ix = .int .i64 (i : Int) ∧ keysTo keys i = true ∧ Below W0.heap.size W0 wr) (fun ix _ => ql - (intOf ix).toNat)
  case atStart => exact ⟨0, Nat.zero_le _, by go_num, rfl, Below.refl _ _⟩
  case round =>
    obtain ⟨i, hi, rfl, hkt, hbr⟩ := hrel
    have HBL := Lib.hid hbr
    have HKT := Lib.hid hkt
    clear hbr hkt
    by_cases hlt : i < ql
    · have g1 : (i : Int) < (ql : Int) := by omega
      obtain ⟨u, hu⟩ : ∃ u, keys[i]? = some u := ⟨_, List.getElem?_eq_getElem (by have := HQL.out; omega)⟩
      obtain ⟨b, o, rfl, hb, hcell⟩ := (HKS.out.ext HBL.out).hat i u hu
      have hsz := HKS.out.hsz u (List.mem_of_getElem? hu)
      have hgd : keys.getD i default = u := by rw [List.getD, hu]; rfl
      have hsucc := keysTo_succ keys i
      rw [hgd, HKT.out, Bool.true_and] at hsucc
      have HSU := Lib.hid hsucc
      have hcu := Tryd_uCheck u wr hsz (HN.out.ext HBL.out)
      have HLT := Lib.hid hlt
      have HU := Lib.hid hu
      have HBB := Lib.hid hb
      obtain ⟨vb, hvb⟩ : ∃ v, validB u.data.toList = v := ⟨_, rfl⟩
      rw [hvb] at hcu
      have HCU := Lib.hid hcu
      have HV := Lib.hid hvb
      clear hgd hsucc hsz hlt hi hcu hvb hu hb
      go_wp2_with fail
      refine HCU.out.mono ?_; rintro e w1 ⟨⟨a, rfl⟩, hb1⟩
      have hbx := HBL.out.trans (hb1.mono HBL.out.size)
      have hq1 := HB0.out.ext hbx
      have HB1 := Lib.hid hbx
      have HX1 := Lib.hid hb1
      have q1 := hq1.cells
      have l1 := hq1.lt
      clear hbx hq1 hb1 HCU hcell
      cases vb with
      | false =>
        simp only [Bool.false_eq_true, if_false]
        have e : r = false := by
          rw [← HR.out]
          have h1 : keysTo keys ql = false := by
            cases hkq : keysTo keys ql with
            | false => rfl
            | true =>
              have h2 := keysTo_mono hkq (show i + 1 ≤ ql from HLT.out)
              rw [HSU.out, HV.out] at h2
              cases h2
          rw [h1, Bool.false_and]
        subst e
        go_wp2
        go_ret
        exact ⟨rfl, BEL0.out.trans (HB1.out.mono BEL0.out.size)⟩
      | true =>
        simp only [if_true]
        cases i with
        | zero =>
          have hk1 := Lib.hid (show keysTo keys 1 = true by rw [HSU.out, HV.out]; rfl)
          go_wp2_with fail
          go_roundw
          case rel => exact ⟨1, HLT.out, by go_num, hk1.out, HB1.out⟩
          case measure => have := HLT.out; simp [intOf]; omega
        | succ j =>
          obtain ⟨u', hu'⟩ : ∃ u, keys[j]? = some u := ⟨_, List.getElem?_eq_getElem (by have := HQL.out; have := HLT.out; omega)⟩
          obtain ⟨b', o', e', hbb', hcell'⟩ := (HKS.out.ext HB1.out).hat j u' hu'
          cases e'
          have hgd' : keys.getD j default = u' := by rw [List.getD, hu']; rfl
          have g2 : (j : Int) < (ql : Int) := by omega
          have u1 : IntKind.i64.wrap (j : Int) = (j : Int) := IntWalk.i64_in _ (by omega)
          obtain ⟨le, hle⟩ : ∃ le, Op.bytesLess u'.toList u.toList = le := ⟨_, rfl⟩
          have hsu := HSU.out
          rw [HV.out, Nat.add_sub_cancel, hgd', hle] at hsu
          simp only [Bool.true_and, Nat.add_eq_zero_iff, Nat.succ_ne_zero, and_false, decide_false, Bool.false_or] at hsu
          have HSU2 := Lib.hid hsu
          clear hu' hgd' hsu
          cases le with
          | true =>
            go_wp2_with fail
            go_roundw
            case rel => exact ⟨j + 1 + 1, HLT.out, by go_num, HSU2.out, HB1.out⟩
            case measure => have := HLT.out; simp [intOf]; omega
          | false =>
            have e : r = false := by
              rw [← HR.out]
              have h1 : keysTo keys ql = false := by
                cases hkq : keysTo keys ql with
                | false => rfl
                | true =>
                  have h2 := keysTo_mono hkq (show j + 1 + 1 ≤ ql from HLT.out)
                  rw [HSU2.out] at h2
                  cases h2
              rw [h1, Bool.false_and]
            subst e
            go_wp2
            go_ret
            exact ⟨rfl, BEL0.out.trans (HB1.out.mono BEL0.out.size)⟩
    · have g1 : ¬ (i : Int) < (ql : Int) := by omega
      obtain rfl : i = ql := by omega
      have hr := HR.out
      rw [HKT.out, Bool.true_and] at hr
      have hq1 := HB0.out.ext HBL.out
      have q1 := hq1.cells
      have l1 := hq1.lt
      clear hq1
      have BEL := Lib.hid (BEL0.out.trans (HBL.out.mono BEL0.out.size))
      have HR2 := Lib.hid hr
      clear hlt hi hr HR
      by_cases hn : n = 0
      · subst hn
        have h0 := HR2.out
        rw [decide_eq_true rfl, Bool.true_and] at h0
        have HR3 := Lib.hid h0
        clear h0 HR2
        cases h2 : (s.toList == (⟨#[]⟩ : ByteArray).toList) with
        | true =>
          have h0 := HR3.out
          rw [h2, Bool.true_and] at h0
          have h2' : s.toList = [] := by simpa using h2
          by_cases h3 : kl = i
          · subst h3
            obtain rfl : r = true := by rw [← h0]; simp
            clear h0 h2 HR3
            go_wp2
            go_ret
            exact ⟨rfl, BEL.out⟩
          · have g3 : ((kl : Int) == (i : Int)) = false := by rw [beq_eq_false_iff_ne]; omega
            obtain rfl : r = false := by rw [← h0]; simp [h3]
            clear h0 h2 h3 HR3
            go_wp2
            go_ret
            exact ⟨rfl, BEL.out⟩
        | false =>
          have h0 := HR3.out
          rw [h2, Bool.false_and] at h0
          obtain rfl : r = false := by rw [← h0]
          have h2' : ¬ s.toList = [] := by simpa using h2
          clear h0 HR3 h2
          go_wp2
          go_ret
          exact ⟨rfl, BEL.out⟩
      · have g3 : (n == 0) = false := by rw [beq_eq_false_iff_ne]; exact hn
        obtain rfl : r = false := by rw [← HR2.out]; simp [hn]
        clear hn HR2
        go_wp2
        go_ret
        exact ⟨rfl, BEL.out⟩
end Go.Proofs.YtmcmknndhppljaaDoor

namespace Go.Proofs.YtmcmknndhppljaaDoor
set_option linter.unusedVariables false
set_option linter.unusedSimpArgs false
open Go.RowKit Go.Dav
attribute [local go_sem] Gives ite_val ite_val_true

theorem Tryd_enter101 (args : Array Value) (W : World) : (callFunc 101 args).run Tryd.prog W = .ok (Next.enter 101 args) W := by kernel_rfl
theorem Tryd_enter102 (args : Array Value) (W : World) : (callFunc 102 args).run Tryd.prog W = .ok (Next.enter 102 args) W := by kernel_rfl
theorem Tryd_enter103 (args : Array Value) (W : World) : (callFunc 103 args).run Tryd.prog W = .ok (Next.enter 103 args) W := by kernel_rfl
theorem Tryd_enter104 (args : Array Value) (W : World) : (callFunc 104 args).run Tryd.prog W = .ok (Next.enter 104 args) W := by kernel_rfl
theorem Tryd_enter105 (args : Array Value) (W : World) : (callFunc 105 args).run Tryd.prog W = .ok (Next.enter 105 args) W := by kernel_rfl
theorem Tryd_enter106 (args : Array Value) (W : World) : (callFunc 106 args).run Tryd.prog W = .ok (Next.enter 106 args) W := by kernel_rfl

set_option maxRecDepth 8000 in
set_option maxHeartbeats 8000000 in
theorem Tryd_is (x : ValF Unit) (v : Value) (ka qa : Option Addr) (kl kc ql qc : Nat) (w : World) (h : ValIs w (fun _ _ => True) v x ka kl kc qa ql qc) (hN : GlobAt w 0 [.int .i64 0, .int .i64 0] 143) :
    Calls Tryd.prog 83 #[v] w fun e w' => e = .returned (.bool (aloneB x)) ∧ Below w.heap.size w w' := by
  rw [← kindB_alone]
  obtain ⟨kind, n, s, kids, keys⟩ := x
  have hv := h.val
  have hkl := h.hlen
  have hK := h.keys
  have hs := h.hs
  have hql := hK.hlen
  have hk64 := h.hk
  dsimp only at hv hkl hql hK hs hk64
  subst hv
  have hq0 : Blk (w.alloc (.cells #[.int .i64 kind, .int .i64 n, .string s, .slice ka kl kc, .slice qa ql qc] 129)) w.heap.size [.int .i64 kind, .int .i64 n, .string s, .slice ka kl kc, .slice qa ql qc] 129 := Blk.new _ _ _
  obtain ⟨r, hr⟩ : ∃ r, kindB (⟨kind, n, s, kids, keys⟩ : ValF Unit) = r := ⟨_, rfl⟩
  rw [hr]
  unfold kindB bareB objB strEmpty at hr
  dsimp only at hr
  rw [hkl, hql] at hr
  have HK := Lib.hid hK
  have HS := Lib.hid hs
  have HN := Lib.hid hN
  clear h hkl hql hK hs hN hq0
  by_cases k1 : kind = 1
  · subst k1
    rw [if_pos rfl] at hr
    have HCC := Lib.hid (show ∀ W, Below w.heap.size w W → Calls Tryd.prog 101 #[.agg #[.int .i64 1, .int .i64 n, .string s, .slice ka kl kc, .slice qa ql qc]] W (fun e w' => e = .returned (.bool r) ∧ Below W.heap.size W w') from fun W hbw => by have hcc := Tryd_knull 1 n s ka qa kl kc ql qc W; rw [show (decide (n = 0) && (s.toList == (⟨#[]⟩ : ByteArray).toList && (decide (kl = 0) && decide (ql = 0)))) = r from by rw [← hr] <;> simp] at hcc; exact hcc)
    have hen := Tryd_enter101
    clear hr hk64
    go_enter Tryd.func83, Tryd.ntmps83
    go_wp2_with fail
    refine' wp_region_seq [.inl _, .inl _, .inl _, .inl _, .inl _, .inl _, .inl _, .inl _, .inl _, .inl _, .inl _, .inl _, .inl _, .inl _, .inl _, .inl _, .inl _, .inl _] (by kernel_rfl) (by kernel_rfl) ?main1
    case main1 =>
      refine wpParts_det (by rfl) (fun W hE hN => ?_) ?_
      · go_simp; refine ⟨Below.refl _ _, ?_⟩; rfl
      simp only [Act.put, List.setIfInBounds_toArray, List.set_cons_zero, List.set_cons_succ]
      refine wpParts_det (by rfl) (fun W hE hN => ?_) ?_
      · have hc := fun b o h => hE.cell (p := ⟨b, o, none⟩) h
        go_simp; refine ⟨Below.refl _ _, ?_⟩; rfl
      simp only [Act.put, List.setIfInBounds_toArray, List.set_cons_zero, List.set_cons_succ]
      refine wpParts_det (by rfl) (fun W hE hN => ?_) ?_
      · go_simp; refine ⟨Below.refl _ _, ?_⟩; rfl
      simp only [Act.put, List.setIfInBounds_toArray, List.set_cons_zero, List.set_cons_succ]
      refine wpParts_det (by rfl) (fun W hE hN => ?_) ?_
      · go_simp; refine ⟨Below.refl _ _, ?_⟩; rfl
      simp only [Act.put, List.setIfInBounds_toArray, List.set_cons_zero, List.set_cons_succ]
      refine wpParts_det (by rfl) (fun W hE hN => ?_) ?_
      · go_simp; refine ⟨Below.refl _ _, ?_⟩; rfl
      simp only [Act.put, List.setIfInBounds_toArray, List.set_cons_zero, List.set_cons_succ]
      refine wpParts_det (by rfl) (fun W hE hN => ?_) ?_
      · have hc := fun b o h => hE.cell (p := ⟨b, o, none⟩) h
        go_simp; refine ⟨Below.refl _ _, ?_⟩; rfl
      simp only [Act.put, List.setIfInBounds_toArray, List.set_cons_zero, List.set_cons_succ]
      refine wpParts_det (by rfl) (fun W hE hN => ?_) ?_
      · go_simp; refine ⟨Below.refl _ _, ?_⟩; rfl
      simp only [Act.put, List.setIfInBounds_toArray, List.set_cons_zero, List.set_cons_succ]
      refine wpParts_det (by rfl) (fun W hE hN => ?_) ?_
      · go_simp; refine ⟨Below.refl _ _, ?_⟩; rfl
      simp only [Act.put, List.setIfInBounds_toArray, List.set_cons_zero, List.set_cons_succ]
      refine wpParts_det (by rfl) (fun W hE hN => ?_) ?_
      · go_simp; refine ⟨Below.refl _ _, ?_⟩; rfl
      simp only [Act.put, List.setIfInBounds_toArray, List.set_cons_zero, List.set_cons_succ]
      refine wpParts_det (by rfl) (fun W hE hN => ?_) ?_
      · go_simp; refine ⟨Below.refl _ _, ?_⟩; rfl
      simp only [Act.put, List.setIfInBounds_toArray, List.set_cons_zero, List.set_cons_succ]
      refine wpParts_det (by rfl) (fun W hE hN => ?_) ?_
      · have hc := fun b o h => hE.cell (p := ⟨b, o, none⟩) h
        go_simp; refine ⟨Below.refl _ _, ?_⟩; rfl
      simp only [Act.put, List.setIfInBounds_toArray, List.set_cons_zero, List.set_cons_succ]
      refine wpParts_det (by rfl) (fun W hE hN => ?_) ?_
      · go_simp; refine ⟨Below.refl _ _, ?_⟩; rfl
      simp only [Act.put, List.setIfInBounds_toArray, List.set_cons_zero, List.set_cons_succ]
      refine wpParts_det (by rfl) (fun W hE hN => ?_) ?_
      · go_simp; refine ⟨Below.refl _ _, ?_⟩; rfl
      simp only [Act.put, List.setIfInBounds_toArray, List.set_cons_zero, List.set_cons_succ]
      refine wpParts_det (by rfl) (fun W hE hN => ?_) ?_
      · have hc := fun b o h => hE.cell (p := ⟨b, o, none⟩) h
        go_simp; refine ⟨Below.refl _ _, ?_⟩; rfl
      simp only [Act.put, List.setIfInBounds_toArray, List.set_cons_zero, List.set_cons_succ]
      refine wpParts_det (by rfl) (fun W hE hN => ?_) ?_
      · have hc := fun b o h => hE.cell (p := ⟨b, o, none⟩) h
        go_simp; refine ⟨Below.refl _ _, ?_⟩; rfl
      simp only [Act.put, List.setIfInBounds_toArray, List.set_cons_zero, List.set_cons_succ]
      refine wpParts_det (by rfl) (fun W hE hN => ?_) ?_
      · have hbw : Below w.heap.size w W := (by repeat (first | (with_reducible exact Below.refl _ _) | (with_reducible exact Below.refl _ _) | (with_reducible refine Below.setCell ?_ (by first | omega | (simp; done) | (simp; omega)) _) | (with_reducible refine Below.alloc ?_ (by first | omega | (simp; done) | (simp; omega)) _) | (with_reducible refine Below.drew ?_) | (with_reducible refine below_drewN ?_ _) | (with_reducible refine Below.trans ?_ (hE.mono (by first | omega | (simp; done) | (simp; omega)))))); go_simp; refine ⟨Below.refl _ _, ?_⟩; refine (HCC.out W hbw).mono ?_; rintro e w' ⟨rfl, hb⟩; refine ⟨?_, hb⟩; rfl
      simp only [Act.put, List.setIfInBounds_toArray, List.set_cons_zero, List.set_cons_succ]
      refine wpParts_det (by rfl) (fun W hE hN => ?_) ?_
      · go_simp; refine ⟨Below.refl _ _, ?_⟩; rfl
      simp only [Act.put, List.setIfInBounds_toArray, List.set_cons_zero, List.set_cons_succ]
      refine wpParts_det (by rfl) (fun W hE hN => ?_) ?_
      · go_simp; refine ⟨Below.refl _ _, ?_⟩; rfl
      simp only [Act.put, List.setIfInBounds_toArray, List.set_cons_zero, List.set_cons_succ]
      refine wpParts_end fun W2 hE2 hG2 => ?_
      have hcW2 := fun b o h => hE2.cell (p := ⟨b, o, none⟩) h
      have hfW2 := fun b o h => hE2.frozen (p := ⟨b, o, none⟩) h
      go_wp2
      go_ret
      exact ⟨rfl, (by repeat (first | (with_reducible exact Below.refl _ _) | (with_reducible exact Below.refl _ _) | (with_reducible refine Below.setCell ?_ (by first | omega | (simp; done) | (simp; omega)) _) | (with_reducible refine Below.alloc ?_ (by first | omega | (simp; done) | (simp; omega)) _) | (with_reducible refine Below.drew ?_) | (with_reducible refine below_drewN ?_ _) | (with_reducible refine Below.trans ?_ (hE2.mono (by first | omega | (simp; done) | (simp; omega))))))⟩
  · by_cases k2 : kind = 2
    · subst k2
      rw [if_neg (by decide), if_pos rfl] at hr
      have HCC := Lib.hid (show ∀ W, Below w.heap.size w W → Calls Tryd.prog 102 #[.agg #[.int .i64 2, .int .i64 n, .string s, .slice ka kl kc, .slice qa ql qc]] W (fun e w' => e = .returned (.bool r) ∧ Below W.heap.size W w') from fun W hbw => by have hcc := Tryd_ktruth 2 n s ka qa kl kc ql qc W; rw [show (decide (n = bits .and .i64 n 1) && (s.toList == (⟨#[]⟩ : ByteArray).toList && (decide (kl = 0) && decide (ql = 0)))) = r from by rw [← hr] <;> simp] at hcc; exact hcc)
      have hen := Tryd_enter102
      clear hr hk64
      go_enter Tryd.func83, Tryd.ntmps83
      go_wp2_with fail
      refine' wp_region_seq [.inl _, .inl _, .inl _, .inl _, .inl _, .inl _, .inl _, .inl _, .inl _, .inl _, .inl _, .inl _, .inl _, .inl _, .inl _, .inl _, .inl _, .inl _] (by kernel_rfl) (by kernel_rfl) ?main2
      case main2 =>
        refine wpParts_det (by rfl) (fun W hE hN => ?_) ?_
        · go_simp; refine ⟨Below.refl _ _, ?_⟩; rfl
        simp only [Act.put, List.setIfInBounds_toArray, List.set_cons_zero, List.set_cons_succ]
        refine wpParts_det (by rfl) (fun W hE hN => ?_) ?_
        · have hc := fun b o h => hE.cell (p := ⟨b, o, none⟩) h
          go_simp; refine ⟨Below.refl _ _, ?_⟩; rfl
        simp only [Act.put, List.setIfInBounds_toArray, List.set_cons_zero, List.set_cons_succ]
        refine wpParts_det (by rfl) (fun W hE hN => ?_) ?_
        · go_simp; refine ⟨Below.refl _ _, ?_⟩; rfl
        simp only [Act.put, List.setIfInBounds_toArray, List.set_cons_zero, List.set_cons_succ]
        refine wpParts_det (by rfl) (fun W hE hN => ?_) ?_
        · go_simp; refine ⟨Below.refl _ _, ?_⟩; rfl
        simp only [Act.put, List.setIfInBounds_toArray, List.set_cons_zero, List.set_cons_succ]
        refine wpParts_det (by rfl) (fun W hE hN => ?_) ?_
        · go_simp; refine ⟨Below.refl _ _, ?_⟩; rfl
        simp only [Act.put, List.setIfInBounds_toArray, List.set_cons_zero, List.set_cons_succ]
        refine wpParts_det (by rfl) (fun W hE hN => ?_) ?_
        · have hc := fun b o h => hE.cell (p := ⟨b, o, none⟩) h
          go_simp; refine ⟨Below.refl _ _, ?_⟩; rfl
        simp only [Act.put, List.setIfInBounds_toArray, List.set_cons_zero, List.set_cons_succ]
        refine wpParts_det (by rfl) (fun W hE hN => ?_) ?_
        · go_simp; refine ⟨Below.refl _ _, ?_⟩; rfl
        simp only [Act.put, List.setIfInBounds_toArray, List.set_cons_zero, List.set_cons_succ]
        refine wpParts_det (by rfl) (fun W hE hN => ?_) ?_
        · go_simp; refine ⟨Below.refl _ _, ?_⟩; rfl
        simp only [Act.put, List.setIfInBounds_toArray, List.set_cons_zero, List.set_cons_succ]
        refine wpParts_det (by rfl) (fun W hE hN => ?_) ?_
        · go_simp; refine ⟨Below.refl _ _, ?_⟩; rfl
        simp only [Act.put, List.setIfInBounds_toArray, List.set_cons_zero, List.set_cons_succ]
        refine wpParts_det (by rfl) (fun W hE hN => ?_) ?_
        · go_simp; refine ⟨Below.refl _ _, ?_⟩; rfl
        simp only [Act.put, List.setIfInBounds_toArray, List.set_cons_zero, List.set_cons_succ]
        refine wpParts_det (by rfl) (fun W hE hN => ?_) ?_
        · have hc := fun b o h => hE.cell (p := ⟨b, o, none⟩) h
          go_simp; refine ⟨Below.refl _ _, ?_⟩; rfl
        simp only [Act.put, List.setIfInBounds_toArray, List.set_cons_zero, List.set_cons_succ]
        refine wpParts_det (by rfl) (fun W hE hN => ?_) ?_
        · go_simp; refine ⟨Below.refl _ _, ?_⟩; rfl
        simp only [Act.put, List.setIfInBounds_toArray, List.set_cons_zero, List.set_cons_succ]
        refine wpParts_det (by rfl) (fun W hE hN => ?_) ?_
        · go_simp; refine ⟨Below.refl _ _, ?_⟩; rfl
        simp only [Act.put, List.setIfInBounds_toArray, List.set_cons_zero, List.set_cons_succ]
        refine wpParts_det (by rfl) (fun W hE hN => ?_) ?_
        · have hc := fun b o h => hE.cell (p := ⟨b, o, none⟩) h
          go_simp; refine ⟨Below.refl _ _, ?_⟩; rfl
        simp only [Act.put, List.setIfInBounds_toArray, List.set_cons_zero, List.set_cons_succ]
        refine wpParts_det (by rfl) (fun W hE hN => ?_) ?_
        · have hc := fun b o h => hE.cell (p := ⟨b, o, none⟩) h
          go_simp; refine ⟨Below.refl _ _, ?_⟩; rfl
        simp only [Act.put, List.setIfInBounds_toArray, List.set_cons_zero, List.set_cons_succ]
        refine wpParts_det (by rfl) (fun W hE hN => ?_) ?_
        · have hbw : Below w.heap.size w W := (by repeat (first | (with_reducible exact Below.refl _ _) | (with_reducible exact Below.refl _ _) | (with_reducible refine Below.setCell ?_ (by first | omega | (simp; done) | (simp; omega)) _) | (with_reducible refine Below.alloc ?_ (by first | omega | (simp; done) | (simp; omega)) _) | (with_reducible refine Below.drew ?_) | (with_reducible refine below_drewN ?_ _) | (with_reducible refine Below.trans ?_ (hE.mono (by first | omega | (simp; done) | (simp; omega)))))); go_simp; refine ⟨Below.refl _ _, ?_⟩; refine (HCC.out W hbw).mono ?_; rintro e w' ⟨rfl, hb⟩; refine ⟨?_, hb⟩; rfl
        simp only [Act.put, List.setIfInBounds_toArray, List.set_cons_zero, List.set_cons_succ]
        refine wpParts_det (by rfl) (fun W hE hN => ?_) ?_
        · go_simp; refine ⟨Below.refl _ _, ?_⟩; rfl
        simp only [Act.put, List.setIfInBounds_toArray, List.set_cons_zero, List.set_cons_succ]
        refine wpParts_det (by rfl) (fun W hE hN => ?_) ?_
        · go_simp; refine ⟨Below.refl _ _, ?_⟩; rfl
        simp only [Act.put, List.setIfInBounds_toArray, List.set_cons_zero, List.set_cons_succ]
        refine wpParts_end fun W2 hE2 hG2 => ?_
        have hcW2 := fun b o h => hE2.cell (p := ⟨b, o, none⟩) h
        have hfW2 := fun b o h => hE2.frozen (p := ⟨b, o, none⟩) h
        go_wp2
        go_ret
        exact ⟨rfl, (by repeat (first | (with_reducible exact Below.refl _ _) | (with_reducible exact Below.refl _ _) | (with_reducible refine Below.setCell ?_ (by first | omega | (simp; done) | (simp; omega)) _) | (with_reducible refine Below.alloc ?_ (by first | omega | (simp; done) | (simp; omega)) _) | (with_reducible refine Below.drew ?_) | (with_reducible refine below_drewN ?_ _) | (with_reducible refine Below.trans ?_ (hE2.mono (by first | omega | (simp; done) | (simp; omega))))))⟩
    · by_cases k3 : kind = 3
      · subst k3
        rw [if_neg (by decide), if_neg (by decide), if_pos rfl] at hr
        have HCC := Lib.hid (show ∀ W, Below w.heap.size w W → Calls Tryd.prog 103 #[.agg #[.int .i64 3, .int .i64 n, .string s, .slice ka kl kc, .slice qa ql qc]] W (fun e w' => e = .returned (.bool r) ∧ Below W.heap.size W w') from fun W hbw => by have hcc := Tryd_knumber 3 n s ka qa kl kc ql qc W; rw [show (decide (n = n) && (s.toList == (⟨#[]⟩ : ByteArray).toList && (decide (kl = 0) && decide (ql = 0)))) = r from by rw [← hr] <;> simp] at hcc; exact hcc)
        have hen := Tryd_enter103
        clear hr hk64
        go_enter Tryd.func83, Tryd.ntmps83
        go_wp2_with fail
        refine' wp_region_seq [.inl _, .inl _, .inl _, .inl _, .inl _, .inl _, .inl _, .inl _, .inl _, .inl _, .inl _, .inl _, .inl _, .inl _, .inl _, .inl _, .inl _, .inl _] (by kernel_rfl) (by kernel_rfl) ?main3
        case main3 =>
          refine wpParts_det (by rfl) (fun W hE hN => ?_) ?_
          · go_simp; refine ⟨Below.refl _ _, ?_⟩; rfl
          simp only [Act.put, List.setIfInBounds_toArray, List.set_cons_zero, List.set_cons_succ]
          refine wpParts_det (by rfl) (fun W hE hN => ?_) ?_
          · have hc := fun b o h => hE.cell (p := ⟨b, o, none⟩) h
            go_simp; refine ⟨Below.refl _ _, ?_⟩; rfl
          simp only [Act.put, List.setIfInBounds_toArray, List.set_cons_zero, List.set_cons_succ]
          refine wpParts_det (by rfl) (fun W hE hN => ?_) ?_
          · go_simp; refine ⟨Below.refl _ _, ?_⟩; rfl
          simp only [Act.put, List.setIfInBounds_toArray, List.set_cons_zero, List.set_cons_succ]
          refine wpParts_det (by rfl) (fun W hE hN => ?_) ?_
          · go_simp; refine ⟨Below.refl _ _, ?_⟩; rfl
          simp only [Act.put, List.setIfInBounds_toArray, List.set_cons_zero, List.set_cons_succ]
          refine wpParts_det (by rfl) (fun W hE hN => ?_) ?_
          · go_simp; refine ⟨Below.refl _ _, ?_⟩; rfl
          simp only [Act.put, List.setIfInBounds_toArray, List.set_cons_zero, List.set_cons_succ]
          refine wpParts_det (by rfl) (fun W hE hN => ?_) ?_
          · have hc := fun b o h => hE.cell (p := ⟨b, o, none⟩) h
            go_simp; refine ⟨Below.refl _ _, ?_⟩; rfl
          simp only [Act.put, List.setIfInBounds_toArray, List.set_cons_zero, List.set_cons_succ]
          refine wpParts_det (by rfl) (fun W hE hN => ?_) ?_
          · go_simp; refine ⟨Below.refl _ _, ?_⟩; rfl
          simp only [Act.put, List.setIfInBounds_toArray, List.set_cons_zero, List.set_cons_succ]
          refine wpParts_det (by rfl) (fun W hE hN => ?_) ?_
          · go_simp; refine ⟨Below.refl _ _, ?_⟩; rfl
          simp only [Act.put, List.setIfInBounds_toArray, List.set_cons_zero, List.set_cons_succ]
          refine wpParts_det (by rfl) (fun W hE hN => ?_) ?_
          · go_simp; refine ⟨Below.refl _ _, ?_⟩; rfl
          simp only [Act.put, List.setIfInBounds_toArray, List.set_cons_zero, List.set_cons_succ]
          refine wpParts_det (by rfl) (fun W hE hN => ?_) ?_
          · go_simp; refine ⟨Below.refl _ _, ?_⟩; rfl
          simp only [Act.put, List.setIfInBounds_toArray, List.set_cons_zero, List.set_cons_succ]
          refine wpParts_det (by rfl) (fun W hE hN => ?_) ?_
          · have hc := fun b o h => hE.cell (p := ⟨b, o, none⟩) h
            go_simp; refine ⟨Below.refl _ _, ?_⟩; rfl
          simp only [Act.put, List.setIfInBounds_toArray, List.set_cons_zero, List.set_cons_succ]
          refine wpParts_det (by rfl) (fun W hE hN => ?_) ?_
          · go_simp; refine ⟨Below.refl _ _, ?_⟩; rfl
          simp only [Act.put, List.setIfInBounds_toArray, List.set_cons_zero, List.set_cons_succ]
          refine wpParts_det (by rfl) (fun W hE hN => ?_) ?_
          · go_simp; refine ⟨Below.refl _ _, ?_⟩; rfl
          simp only [Act.put, List.setIfInBounds_toArray, List.set_cons_zero, List.set_cons_succ]
          refine wpParts_det (by rfl) (fun W hE hN => ?_) ?_
          · have hc := fun b o h => hE.cell (p := ⟨b, o, none⟩) h
            go_simp; refine ⟨Below.refl _ _, ?_⟩; rfl
          simp only [Act.put, List.setIfInBounds_toArray, List.set_cons_zero, List.set_cons_succ]
          refine wpParts_det (by rfl) (fun W hE hN => ?_) ?_
          · have hc := fun b o h => hE.cell (p := ⟨b, o, none⟩) h
            go_simp; refine ⟨Below.refl _ _, ?_⟩; rfl
          simp only [Act.put, List.setIfInBounds_toArray, List.set_cons_zero, List.set_cons_succ]
          refine wpParts_det (by rfl) (fun W hE hN => ?_) ?_
          · have hbw : Below w.heap.size w W := (by repeat (first | (with_reducible exact Below.refl _ _) | (with_reducible exact Below.refl _ _) | (with_reducible refine Below.setCell ?_ (by first | omega | (simp; done) | (simp; omega)) _) | (with_reducible refine Below.alloc ?_ (by first | omega | (simp; done) | (simp; omega)) _) | (with_reducible refine Below.drew ?_) | (with_reducible refine below_drewN ?_ _) | (with_reducible refine Below.trans ?_ (hE.mono (by first | omega | (simp; done) | (simp; omega)))))); go_simp; refine ⟨Below.refl _ _, ?_⟩; refine (HCC.out W hbw).mono ?_; rintro e w' ⟨rfl, hb⟩; refine ⟨?_, hb⟩; rfl
          simp only [Act.put, List.setIfInBounds_toArray, List.set_cons_zero, List.set_cons_succ]
          refine wpParts_det (by rfl) (fun W hE hN => ?_) ?_
          · go_simp; refine ⟨Below.refl _ _, ?_⟩; rfl
          simp only [Act.put, List.setIfInBounds_toArray, List.set_cons_zero, List.set_cons_succ]
          refine wpParts_det (by rfl) (fun W hE hN => ?_) ?_
          · go_simp; refine ⟨Below.refl _ _, ?_⟩; rfl
          simp only [Act.put, List.setIfInBounds_toArray, List.set_cons_zero, List.set_cons_succ]
          refine wpParts_end fun W2 hE2 hG2 => ?_
          have hcW2 := fun b o h => hE2.cell (p := ⟨b, o, none⟩) h
          have hfW2 := fun b o h => hE2.frozen (p := ⟨b, o, none⟩) h
          go_wp2
          go_ret
          exact ⟨rfl, (by repeat (first | (with_reducible exact Below.refl _ _) | (with_reducible exact Below.refl _ _) | (with_reducible refine Below.setCell ?_ (by first | omega | (simp; done) | (simp; omega)) _) | (with_reducible refine Below.alloc ?_ (by first | omega | (simp; done) | (simp; omega)) _) | (with_reducible refine Below.drew ?_) | (with_reducible refine below_drewN ?_ _) | (with_reducible refine Below.trans ?_ (hE2.mono (by first | omega | (simp; done) | (simp; omega))))))⟩
      · by_cases k4 : kind = 4
        · subst k4
          rw [if_neg (by decide), if_neg (by decide), if_neg (by decide), if_pos rfl] at hr
          have HCC := Lib.hid (show ∀ W, Below w.heap.size w W → Calls Tryd.prog 104 #[.agg #[.int .i64 4, .int .i64 n, .string s, .slice ka kl kc, .slice qa ql qc]] W (fun e w' => e = .returned (.bool r) ∧ Below W.heap.size W w') from fun W hbw => by have hcc := Tryd_ktext 4 n s ka qa kl kc ql qc W HS.out (HN.out.ext hbw); rw [show (validB s.data.toList && (decide (n = 0) && (s.toList == s.toList && (decide (kl = 0) && decide (ql = 0))))) = r from by rw [← hr] <;> simp] at hcc; exact hcc)
          have hen := Tryd_enter104
          clear hr hk64
          go_enter Tryd.func83, Tryd.ntmps83
          go_wp2_with fail
          refine' wp_region_seq [.inl _, .inl _, .inl _, .inl _, .inl _, .inl _, .inl _, .inl _, .inl _, .inl _, .inl _, .inl _, .inl _, .inl _, .inl _, .inl _, .inl _, .inl _] (by kernel_rfl) (by kernel_rfl) ?main4
          case main4 =>
            refine wpParts_det (by rfl) (fun W hE hN => ?_) ?_
            · go_simp; refine ⟨Below.refl _ _, ?_⟩; rfl
            simp only [Act.put, List.setIfInBounds_toArray, List.set_cons_zero, List.set_cons_succ]
            refine wpParts_det (by rfl) (fun W hE hN => ?_) ?_
            · have hc := fun b o h => hE.cell (p := ⟨b, o, none⟩) h
              go_simp; refine ⟨Below.refl _ _, ?_⟩; rfl
            simp only [Act.put, List.setIfInBounds_toArray, List.set_cons_zero, List.set_cons_succ]
            refine wpParts_det (by rfl) (fun W hE hN => ?_) ?_
            · go_simp; refine ⟨Below.refl _ _, ?_⟩; rfl
            simp only [Act.put, List.setIfInBounds_toArray, List.set_cons_zero, List.set_cons_succ]
            refine wpParts_det (by rfl) (fun W hE hN => ?_) ?_
            · go_simp; refine ⟨Below.refl _ _, ?_⟩; rfl
            simp only [Act.put, List.setIfInBounds_toArray, List.set_cons_zero, List.set_cons_succ]
            refine wpParts_det (by rfl) (fun W hE hN => ?_) ?_
            · go_simp; refine ⟨Below.refl _ _, ?_⟩; rfl
            simp only [Act.put, List.setIfInBounds_toArray, List.set_cons_zero, List.set_cons_succ]
            refine wpParts_det (by rfl) (fun W hE hN => ?_) ?_
            · have hc := fun b o h => hE.cell (p := ⟨b, o, none⟩) h
              go_simp; refine ⟨Below.refl _ _, ?_⟩; rfl
            simp only [Act.put, List.setIfInBounds_toArray, List.set_cons_zero, List.set_cons_succ]
            refine wpParts_det (by rfl) (fun W hE hN => ?_) ?_
            · go_simp; refine ⟨Below.refl _ _, ?_⟩; rfl
            simp only [Act.put, List.setIfInBounds_toArray, List.set_cons_zero, List.set_cons_succ]
            refine wpParts_det (by rfl) (fun W hE hN => ?_) ?_
            · go_simp; refine ⟨Below.refl _ _, ?_⟩; rfl
            simp only [Act.put, List.setIfInBounds_toArray, List.set_cons_zero, List.set_cons_succ]
            refine wpParts_det (by rfl) (fun W hE hN => ?_) ?_
            · go_simp; refine ⟨Below.refl _ _, ?_⟩; rfl
            simp only [Act.put, List.setIfInBounds_toArray, List.set_cons_zero, List.set_cons_succ]
            refine wpParts_det (by rfl) (fun W hE hN => ?_) ?_
            · go_simp; refine ⟨Below.refl _ _, ?_⟩; rfl
            simp only [Act.put, List.setIfInBounds_toArray, List.set_cons_zero, List.set_cons_succ]
            refine wpParts_det (by rfl) (fun W hE hN => ?_) ?_
            · have hc := fun b o h => hE.cell (p := ⟨b, o, none⟩) h
              go_simp; refine ⟨Below.refl _ _, ?_⟩; rfl
            simp only [Act.put, List.setIfInBounds_toArray, List.set_cons_zero, List.set_cons_succ]
            refine wpParts_det (by rfl) (fun W hE hN => ?_) ?_
            · go_simp; refine ⟨Below.refl _ _, ?_⟩; rfl
            simp only [Act.put, List.setIfInBounds_toArray, List.set_cons_zero, List.set_cons_succ]
            refine wpParts_det (by rfl) (fun W hE hN => ?_) ?_
            · go_simp; refine ⟨Below.refl _ _, ?_⟩; rfl
            simp only [Act.put, List.setIfInBounds_toArray, List.set_cons_zero, List.set_cons_succ]
            refine wpParts_det (by rfl) (fun W hE hN => ?_) ?_
            · have hc := fun b o h => hE.cell (p := ⟨b, o, none⟩) h
              go_simp; refine ⟨Below.refl _ _, ?_⟩; rfl
            simp only [Act.put, List.setIfInBounds_toArray, List.set_cons_zero, List.set_cons_succ]
            refine wpParts_det (by rfl) (fun W hE hN => ?_) ?_
            · have hc := fun b o h => hE.cell (p := ⟨b, o, none⟩) h
              go_simp; refine ⟨Below.refl _ _, ?_⟩; rfl
            simp only [Act.put, List.setIfInBounds_toArray, List.set_cons_zero, List.set_cons_succ]
            refine wpParts_det (by rfl) (fun W hE hN => ?_) ?_
            · have hbw : Below w.heap.size w W := (by repeat (first | (with_reducible exact Below.refl _ _) | (with_reducible exact Below.refl _ _) | (with_reducible refine Below.setCell ?_ (by first | omega | (simp; done) | (simp; omega)) _) | (with_reducible refine Below.alloc ?_ (by first | omega | (simp; done) | (simp; omega)) _) | (with_reducible refine Below.drew ?_) | (with_reducible refine below_drewN ?_ _) | (with_reducible refine Below.trans ?_ (hE.mono (by first | omega | (simp; done) | (simp; omega)))))); go_simp; refine ⟨Below.refl _ _, ?_⟩; refine (HCC.out W hbw).mono ?_; rintro e w' ⟨rfl, hb⟩; refine ⟨?_, hb⟩; rfl
            simp only [Act.put, List.setIfInBounds_toArray, List.set_cons_zero, List.set_cons_succ]
            refine wpParts_det (by rfl) (fun W hE hN => ?_) ?_
            · go_simp; refine ⟨Below.refl _ _, ?_⟩; rfl
            simp only [Act.put, List.setIfInBounds_toArray, List.set_cons_zero, List.set_cons_succ]
            refine wpParts_det (by rfl) (fun W hE hN => ?_) ?_
            · go_simp; refine ⟨Below.refl _ _, ?_⟩; rfl
            simp only [Act.put, List.setIfInBounds_toArray, List.set_cons_zero, List.set_cons_succ]
            refine wpParts_end fun W2 hE2 hG2 => ?_
            have hcW2 := fun b o h => hE2.cell (p := ⟨b, o, none⟩) h
            have hfW2 := fun b o h => hE2.frozen (p := ⟨b, o, none⟩) h
            go_wp2
            go_ret
            exact ⟨rfl, (by repeat (first | (with_reducible exact Below.refl _ _) | (with_reducible exact Below.refl _ _) | (with_reducible refine Below.setCell ?_ (by first | omega | (simp; done) | (simp; omega)) _) | (with_reducible refine Below.alloc ?_ (by first | omega | (simp; done) | (simp; omega)) _) | (with_reducible refine Below.drew ?_) | (with_reducible refine below_drewN ?_ _) | (with_reducible refine Below.trans ?_ (hE2.mono (by first | omega | (simp; done) | (simp; omega))))))⟩
        · by_cases k5 : kind = 5
          · subst k5
            rw [if_neg (by decide), if_neg (by decide), if_neg (by decide), if_neg (by decide), if_pos rfl] at hr
            have HCC := Lib.hid (show ∀ W, Below w.heap.size w W → Calls Tryd.prog 105 #[.agg #[.int .i64 5, .int .i64 n, .string s, .slice ka kl kc, .slice qa ql qc]] W (fun e w' => e = .returned (.bool r) ∧ Below W.heap.size W w') from fun W hbw => by have hcc := Tryd_klist 5 n s ka qa kl kc ql qc W; rw [show (decide (n = 0) && (s.toList == (⟨#[]⟩ : ByteArray).toList && (decide (kl = kl) && decide (ql = 0)))) = r from by rw [← hr] <;> simp] at hcc; exact hcc)
            have hen := Tryd_enter105
            clear hr hk64
            go_enter Tryd.func83, Tryd.ntmps83
            go_wp2_with fail
            refine' wp_region_seq [.inl _, .inl _, .inl _, .inl _, .inl _, .inl _, .inl _, .inl _, .inl _, .inl _, .inl _, .inl _, .inl _, .inl _, .inl _, .inl _, .inl _, .inl _] (by kernel_rfl) (by kernel_rfl) ?main5
            case main5 =>
              refine wpParts_det (by rfl) (fun W hE hN => ?_) ?_
              · go_simp; refine ⟨Below.refl _ _, ?_⟩; rfl
              simp only [Act.put, List.setIfInBounds_toArray, List.set_cons_zero, List.set_cons_succ]
              refine wpParts_det (by rfl) (fun W hE hN => ?_) ?_
              · have hc := fun b o h => hE.cell (p := ⟨b, o, none⟩) h
                go_simp; refine ⟨Below.refl _ _, ?_⟩; rfl
              simp only [Act.put, List.setIfInBounds_toArray, List.set_cons_zero, List.set_cons_succ]
              refine wpParts_det (by rfl) (fun W hE hN => ?_) ?_
              · go_simp; refine ⟨Below.refl _ _, ?_⟩; rfl
              simp only [Act.put, List.setIfInBounds_toArray, List.set_cons_zero, List.set_cons_succ]
              refine wpParts_det (by rfl) (fun W hE hN => ?_) ?_
              · go_simp; refine ⟨Below.refl _ _, ?_⟩; rfl
              simp only [Act.put, List.setIfInBounds_toArray, List.set_cons_zero, List.set_cons_succ]
              refine wpParts_det (by rfl) (fun W hE hN => ?_) ?_
              · go_simp; refine ⟨Below.refl _ _, ?_⟩; rfl
              simp only [Act.put, List.setIfInBounds_toArray, List.set_cons_zero, List.set_cons_succ]
              refine wpParts_det (by rfl) (fun W hE hN => ?_) ?_
              · have hc := fun b o h => hE.cell (p := ⟨b, o, none⟩) h
                go_simp; refine ⟨Below.refl _ _, ?_⟩; rfl
              simp only [Act.put, List.setIfInBounds_toArray, List.set_cons_zero, List.set_cons_succ]
              refine wpParts_det (by rfl) (fun W hE hN => ?_) ?_
              · go_simp; refine ⟨Below.refl _ _, ?_⟩; rfl
              simp only [Act.put, List.setIfInBounds_toArray, List.set_cons_zero, List.set_cons_succ]
              refine wpParts_det (by rfl) (fun W hE hN => ?_) ?_
              · go_simp; refine ⟨Below.refl _ _, ?_⟩; rfl
              simp only [Act.put, List.setIfInBounds_toArray, List.set_cons_zero, List.set_cons_succ]
              refine wpParts_det (by rfl) (fun W hE hN => ?_) ?_
              · go_simp; refine ⟨Below.refl _ _, ?_⟩; rfl
              simp only [Act.put, List.setIfInBounds_toArray, List.set_cons_zero, List.set_cons_succ]
              refine wpParts_det (by rfl) (fun W hE hN => ?_) ?_
              · go_simp; refine ⟨Below.refl _ _, ?_⟩; rfl
              simp only [Act.put, List.setIfInBounds_toArray, List.set_cons_zero, List.set_cons_succ]
              refine wpParts_det (by rfl) (fun W hE hN => ?_) ?_
              · have hc := fun b o h => hE.cell (p := ⟨b, o, none⟩) h
                go_simp; refine ⟨Below.refl _ _, ?_⟩; rfl
              simp only [Act.put, List.setIfInBounds_toArray, List.set_cons_zero, List.set_cons_succ]
              refine wpParts_det (by rfl) (fun W hE hN => ?_) ?_
              · go_simp; refine ⟨Below.refl _ _, ?_⟩; rfl
              simp only [Act.put, List.setIfInBounds_toArray, List.set_cons_zero, List.set_cons_succ]
              refine wpParts_det (by rfl) (fun W hE hN => ?_) ?_
              · go_simp; refine ⟨Below.refl _ _, ?_⟩; rfl
              simp only [Act.put, List.setIfInBounds_toArray, List.set_cons_zero, List.set_cons_succ]
              refine wpParts_det (by rfl) (fun W hE hN => ?_) ?_
              · have hc := fun b o h => hE.cell (p := ⟨b, o, none⟩) h
                go_simp; refine ⟨Below.refl _ _, ?_⟩; rfl
              simp only [Act.put, List.setIfInBounds_toArray, List.set_cons_zero, List.set_cons_succ]
              refine wpParts_det (by rfl) (fun W hE hN => ?_) ?_
              · have hc := fun b o h => hE.cell (p := ⟨b, o, none⟩) h
                go_simp; refine ⟨Below.refl _ _, ?_⟩; rfl
              simp only [Act.put, List.setIfInBounds_toArray, List.set_cons_zero, List.set_cons_succ]
              refine wpParts_det (by rfl) (fun W hE hN => ?_) ?_
              · have hbw : Below w.heap.size w W := (by repeat (first | (with_reducible exact Below.refl _ _) | (with_reducible exact Below.refl _ _) | (with_reducible refine Below.setCell ?_ (by first | omega | (simp; done) | (simp; omega)) _) | (with_reducible refine Below.alloc ?_ (by first | omega | (simp; done) | (simp; omega)) _) | (with_reducible refine Below.drew ?_) | (with_reducible refine below_drewN ?_ _) | (with_reducible refine Below.trans ?_ (hE.mono (by first | omega | (simp; done) | (simp; omega)))))); go_simp; refine ⟨Below.refl _ _, ?_⟩; refine (HCC.out W hbw).mono ?_; rintro e w' ⟨rfl, hb⟩; refine ⟨?_, hb⟩; rfl
              simp only [Act.put, List.setIfInBounds_toArray, List.set_cons_zero, List.set_cons_succ]
              refine wpParts_det (by rfl) (fun W hE hN => ?_) ?_
              · go_simp; refine ⟨Below.refl _ _, ?_⟩; rfl
              simp only [Act.put, List.setIfInBounds_toArray, List.set_cons_zero, List.set_cons_succ]
              refine wpParts_det (by rfl) (fun W hE hN => ?_) ?_
              · go_simp; refine ⟨Below.refl _ _, ?_⟩; rfl
              simp only [Act.put, List.setIfInBounds_toArray, List.set_cons_zero, List.set_cons_succ]
              refine wpParts_end fun W2 hE2 hG2 => ?_
              have hcW2 := fun b o h => hE2.cell (p := ⟨b, o, none⟩) h
              have hfW2 := fun b o h => hE2.frozen (p := ⟨b, o, none⟩) h
              go_wp2
              go_ret
              exact ⟨rfl, (by repeat (first | (with_reducible exact Below.refl _ _) | (with_reducible exact Below.refl _ _) | (with_reducible refine Below.setCell ?_ (by first | omega | (simp; done) | (simp; omega)) _) | (with_reducible refine Below.alloc ?_ (by first | omega | (simp; done) | (simp; omega)) _) | (with_reducible refine Below.drew ?_) | (with_reducible refine below_drewN ?_ _) | (with_reducible refine Below.trans ?_ (hE2.mono (by first | omega | (simp; done) | (simp; omega))))))⟩
          · by_cases k6 : kind = 6
            · subst k6
              rw [if_neg (by decide), if_neg (by decide), if_neg (by decide), if_neg (by decide), if_neg (by decide), if_pos rfl] at hr
              have HCC := Lib.hid (show ∀ W, Below w.heap.size w W → Calls Tryd.prog 106 #[.agg #[.int .i64 6, .int .i64 n, .string s, .slice ka kl kc, .slice qa ql qc]] W (fun e w' => e = .returned (.bool r) ∧ Below W.heap.size W w') from fun W hbw => by have hcc := Tryd_kobject 6 n s ka qa kl kc ql qc keys W (HK.out.ext hbw) (HN.out.ext hbw); rw [show (keysTo keys ql && (decide (n = 0) && (s.toList == (⟨#[]⟩ : ByteArray).toList && decide (kl = ql)))) = r from by rw [← hr] <;> simp] at hcc; exact hcc)
              have hen := Tryd_enter106
              clear hr hk64
              go_enter Tryd.func83, Tryd.ntmps83
              go_wp2_with fail
              refine' wp_region_seq [.inl _, .inl _, .inl _, .inl _, .inl _, .inl _, .inl _, .inl _, .inl _, .inl _, .inl _, .inl _, .inl _, .inl _, .inl _, .inl _, .inl _, .inl _] (by kernel_rfl) (by kernel_rfl) ?main6
              case main6 =>
                refine wpParts_det (by rfl) (fun W hE hN => ?_) ?_
                · go_simp; refine ⟨Below.refl _ _, ?_⟩; rfl
                simp only [Act.put, List.setIfInBounds_toArray, List.set_cons_zero, List.set_cons_succ]
                refine wpParts_det (by rfl) (fun W hE hN => ?_) ?_
                · have hc := fun b o h => hE.cell (p := ⟨b, o, none⟩) h
                  go_simp; refine ⟨Below.refl _ _, ?_⟩; rfl
                simp only [Act.put, List.setIfInBounds_toArray, List.set_cons_zero, List.set_cons_succ]
                refine wpParts_det (by rfl) (fun W hE hN => ?_) ?_
                · go_simp; refine ⟨Below.refl _ _, ?_⟩; rfl
                simp only [Act.put, List.setIfInBounds_toArray, List.set_cons_zero, List.set_cons_succ]
                refine wpParts_det (by rfl) (fun W hE hN => ?_) ?_
                · go_simp; refine ⟨Below.refl _ _, ?_⟩; rfl
                simp only [Act.put, List.setIfInBounds_toArray, List.set_cons_zero, List.set_cons_succ]
                refine wpParts_det (by rfl) (fun W hE hN => ?_) ?_
                · go_simp; refine ⟨Below.refl _ _, ?_⟩; rfl
                simp only [Act.put, List.setIfInBounds_toArray, List.set_cons_zero, List.set_cons_succ]
                refine wpParts_det (by rfl) (fun W hE hN => ?_) ?_
                · have hc := fun b o h => hE.cell (p := ⟨b, o, none⟩) h
                  go_simp; refine ⟨Below.refl _ _, ?_⟩; rfl
                simp only [Act.put, List.setIfInBounds_toArray, List.set_cons_zero, List.set_cons_succ]
                refine wpParts_det (by rfl) (fun W hE hN => ?_) ?_
                · go_simp; refine ⟨Below.refl _ _, ?_⟩; rfl
                simp only [Act.put, List.setIfInBounds_toArray, List.set_cons_zero, List.set_cons_succ]
                refine wpParts_det (by rfl) (fun W hE hN => ?_) ?_
                · go_simp; refine ⟨Below.refl _ _, ?_⟩; rfl
                simp only [Act.put, List.setIfInBounds_toArray, List.set_cons_zero, List.set_cons_succ]
                refine wpParts_det (by rfl) (fun W hE hN => ?_) ?_
                · go_simp; refine ⟨Below.refl _ _, ?_⟩; rfl
                simp only [Act.put, List.setIfInBounds_toArray, List.set_cons_zero, List.set_cons_succ]
                refine wpParts_det (by rfl) (fun W hE hN => ?_) ?_
                · go_simp; refine ⟨Below.refl _ _, ?_⟩; rfl
                simp only [Act.put, List.setIfInBounds_toArray, List.set_cons_zero, List.set_cons_succ]
                refine wpParts_det (by rfl) (fun W hE hN => ?_) ?_
                · have hc := fun b o h => hE.cell (p := ⟨b, o, none⟩) h
                  go_simp; refine ⟨Below.refl _ _, ?_⟩; rfl
                simp only [Act.put, List.setIfInBounds_toArray, List.set_cons_zero, List.set_cons_succ]
                refine wpParts_det (by rfl) (fun W hE hN => ?_) ?_
                · go_simp; refine ⟨Below.refl _ _, ?_⟩; rfl
                simp only [Act.put, List.setIfInBounds_toArray, List.set_cons_zero, List.set_cons_succ]
                refine wpParts_det (by rfl) (fun W hE hN => ?_) ?_
                · go_simp; refine ⟨Below.refl _ _, ?_⟩; rfl
                simp only [Act.put, List.setIfInBounds_toArray, List.set_cons_zero, List.set_cons_succ]
                refine wpParts_det (by rfl) (fun W hE hN => ?_) ?_
                · have hc := fun b o h => hE.cell (p := ⟨b, o, none⟩) h
                  go_simp; refine ⟨Below.refl _ _, ?_⟩; rfl
                simp only [Act.put, List.setIfInBounds_toArray, List.set_cons_zero, List.set_cons_succ]
                refine wpParts_det (by rfl) (fun W hE hN => ?_) ?_
                · have hc := fun b o h => hE.cell (p := ⟨b, o, none⟩) h
                  go_simp; refine ⟨Below.refl _ _, ?_⟩; rfl
                simp only [Act.put, List.setIfInBounds_toArray, List.set_cons_zero, List.set_cons_succ]
                refine wpParts_det (by rfl) (fun W hE hN => ?_) ?_
                · have hbw : Below w.heap.size w W := (by repeat (first | (with_reducible exact Below.refl _ _) | (with_reducible exact Below.refl _ _) | (with_reducible refine Below.setCell ?_ (by first | omega | (simp; done) | (simp; omega)) _) | (with_reducible refine Below.alloc ?_ (by first | omega | (simp; done) | (simp; omega)) _) | (with_reducible refine Below.drew ?_) | (with_reducible refine below_drewN ?_ _) | (with_reducible refine Below.trans ?_ (hE.mono (by first | omega | (simp; done) | (simp; omega)))))); go_simp; refine ⟨Below.refl _ _, ?_⟩; refine (HCC.out W hbw).mono ?_; rintro e w' ⟨rfl, hb⟩; refine ⟨?_, hb⟩; rfl
                simp only [Act.put, List.setIfInBounds_toArray, List.set_cons_zero, List.set_cons_succ]
                refine wpParts_det (by rfl) (fun W hE hN => ?_) ?_
                · go_simp; refine ⟨Below.refl _ _, ?_⟩; rfl
                simp only [Act.put, List.setIfInBounds_toArray, List.set_cons_zero, List.set_cons_succ]
                refine wpParts_det (by rfl) (fun W hE hN => ?_) ?_
                · go_simp; refine ⟨Below.refl _ _, ?_⟩; rfl
                simp only [Act.put, List.setIfInBounds_toArray, List.set_cons_zero, List.set_cons_succ]
                refine wpParts_end fun W2 hE2 hG2 => ?_
                have hcW2 := fun b o h => hE2.cell (p := ⟨b, o, none⟩) h
                have hfW2 := fun b o h => hE2.frozen (p := ⟨b, o, none⟩) h
                go_wp2
                go_ret
                exact ⟨rfl, (by repeat (first | (with_reducible exact Below.refl _ _) | (with_reducible exact Below.refl _ _) | (with_reducible refine Below.setCell ?_ (by first | omega | (simp; done) | (simp; omega)) _) | (with_reducible refine Below.alloc ?_ (by first | omega | (simp; done) | (simp; omega)) _) | (with_reducible refine Below.drew ?_) | (with_reducible refine below_drewN ?_ _) | (with_reducible refine Below.trans ?_ (hE2.mono (by first | omega | (simp; done) | (simp; omega))))))⟩
            · rw [if_neg k1, if_neg k2, if_neg k3, if_neg k4, if_neg k5, if_neg k6] at hr
              subst hr
              by_cases h1 : kind < 1
              · have g1 : ¬ (1 : Int) ≤ kind := by omega
                have g1d : decide ((1 : Int) ≤ kind) = false := decide_eq_false g1
                clear h1 k1 k2 k3 k4 k5 k6 HK HS HN hk64
                go_enter Tryd.func83, Tryd.ntmps83
                go_wp2_with fail
                refine' wp_region_seq [.inl _, .inl _, .inl _, .inl _, .inl undef, .inl undef, .inl undef, .inl _, .inl _, .inl undef, .inl undef, .inl undef, .inl undef, .inl undef, .inl undef, .inl undef, .inl _, .inl _] (by kernel_rfl) (by kernel_rfl) ?main7
                case main7 =>
                  refine wpParts_det (by rfl) (fun W hE hN => ?_) ?_
                  · go_simp; refine ⟨Below.refl _ _, ?_⟩; rfl
                  simp only [Act.put, List.setIfInBounds_toArray, List.set_cons_zero, List.set_cons_succ]
                  refine wpParts_det (by rfl) (fun W hE hN => ?_) ?_
                  · have hc := fun b o h => hE.cell (p := ⟨b, o, none⟩) h
                    go_simp; refine ⟨Below.refl _ _, ?_⟩; rfl
                  simp only [Act.put, List.setIfInBounds_toArray, List.set_cons_zero, List.set_cons_succ]
                  refine wpParts_det (by rfl) (fun W hE hN => ?_) ?_
                  · go_simp; refine ⟨Below.refl _ _, ?_⟩; rfl
                  simp only [Act.put, List.setIfInBounds_toArray, List.set_cons_zero, List.set_cons_succ]
                  refine wpParts_det (by rfl) (fun W hE hN => ?_) ?_
                  · go_simp; refine ⟨Below.refl _ _, ?_⟩; rfl
                  simp only [Act.put, List.setIfInBounds_toArray, List.set_cons_zero, List.set_cons_succ]
                  refine wpParts_skip ?_ ?_
                  · rfl
                  simp only [Act.put, List.setIfInBounds_toArray, List.set_cons_zero, List.set_cons_succ]
                  refine wpParts_skip ?_ ?_
                  · rfl
                  simp only [Act.put, List.setIfInBounds_toArray, List.set_cons_zero, List.set_cons_succ]
                  refine wpParts_skip ?_ ?_
                  · rfl
                  simp only [Act.put, List.setIfInBounds_toArray, List.set_cons_zero, List.set_cons_succ]
                  refine wpParts_det (by rfl) (fun W hE hN => ?_) ?_
                  · go_simp; refine ⟨Below.refl _ _, ?_⟩; rfl
                  simp only [Act.put, List.setIfInBounds_toArray, List.set_cons_zero, List.set_cons_succ]
                  refine wpParts_det (by rfl) (fun W hE hN => ?_) ?_
                  · go_simp; refine ⟨Below.refl _ _, ?_⟩; rfl
                  simp only [Act.put, List.setIfInBounds_toArray, List.set_cons_zero, List.set_cons_succ]
                  refine wpParts_skip ?_ ?_
                  · rfl
                  simp only [Act.put, List.setIfInBounds_toArray, List.set_cons_zero, List.set_cons_succ]
                  refine wpParts_skip ?_ ?_
                  · rfl
                  simp only [Act.put, List.setIfInBounds_toArray, List.set_cons_zero, List.set_cons_succ]
                  refine wpParts_skip ?_ ?_
                  · rfl
                  simp only [Act.put, List.setIfInBounds_toArray, List.set_cons_zero, List.set_cons_succ]
                  refine wpParts_skip ?_ ?_
                  · rfl
                  simp only [Act.put, List.setIfInBounds_toArray, List.set_cons_zero, List.set_cons_succ]
                  refine wpParts_skip ?_ ?_
                  · rfl
                  simp only [Act.put, List.setIfInBounds_toArray, List.set_cons_zero, List.set_cons_succ]
                  refine wpParts_skip ?_ ?_
                  · rfl
                  simp only [Act.put, List.setIfInBounds_toArray, List.set_cons_zero, List.set_cons_succ]
                  refine wpParts_skip ?_ ?_
                  · rfl
                  simp only [Act.put, List.setIfInBounds_toArray, List.set_cons_zero, List.set_cons_succ]
                  refine wpParts_det (by rfl) (fun W hE hN => ?_) ?_
                  · go_simp; refine ⟨Below.refl _ _, ?_⟩; rfl
                  simp only [Act.put, List.setIfInBounds_toArray, List.set_cons_zero, List.set_cons_succ]
                  refine wpParts_det (by rfl) (fun W hE hN => ?_) ?_
                  · go_simp; refine ⟨Below.refl _ _, ?_⟩; rfl
                  simp only [Act.put, List.setIfInBounds_toArray, List.set_cons_zero, List.set_cons_succ]
                  refine wpParts_end fun W2 hE2 hG2 => ?_
                  have hcW2 := fun b o h => hE2.cell (p := ⟨b, o, none⟩) h
                  have hfW2 := fun b o h => hE2.frozen (p := ⟨b, o, none⟩) h
                  go_wp2
                  go_ret
                  exact ⟨rfl, (by repeat (first | (with_reducible exact Below.refl _ _) | (with_reducible exact Below.refl _ _) | (with_reducible refine Below.setCell ?_ (by first | omega | (simp; done) | (simp; omega)) _) | (with_reducible refine Below.alloc ?_ (by first | omega | (simp; done) | (simp; omega)) _) | (with_reducible refine Below.drew ?_) | (with_reducible refine below_drewN ?_ _) | (with_reducible refine Below.trans ?_ (hE2.mono (by first | omega | (simp; done) | (simp; omega))))))⟩
              · have g1 : (1 : Int) ≤ kind := by omega
                have g1d : decide ((1 : Int) ≤ kind) = true := decide_eq_true g1
                have g2 : ¬ kind ≤ 6 := by omega
                have g2d : decide (kind ≤ 6) = false := decide_eq_false g2
                clear h1 k1 k2 k3 k4 k5 k6 HK HS HN hk64
                go_enter Tryd.func83, Tryd.ntmps83
                go_wp2_with fail
                refine' wp_region_seq [.inl _, .inl _, .inl _, .inl _, .inl _, .inl _, .inl _, .inl _, .inl _, .inl undef, .inl undef, .inl undef, .inl undef, .inl undef, .inl undef, .inl undef, .inl _, .inl _] (by kernel_rfl) (by kernel_rfl) ?main8
                case main8 =>
                  refine wpParts_det (by rfl) (fun W hE hN => ?_) ?_
                  · go_simp; refine ⟨Below.refl _ _, ?_⟩; rfl
                  simp only [Act.put, List.setIfInBounds_toArray, List.set_cons_zero, List.set_cons_succ]
                  refine wpParts_det (by rfl) (fun W hE hN => ?_) ?_
                  · have hc := fun b o h => hE.cell (p := ⟨b, o, none⟩) h
                    go_simp; refine ⟨Below.refl _ _, ?_⟩; rfl
                  simp only [Act.put, List.setIfInBounds_toArray, List.set_cons_zero, List.set_cons_succ]
                  refine wpParts_det (by rfl) (fun W hE hN => ?_) ?_
                  · go_simp; refine ⟨Below.refl _ _, ?_⟩; rfl
                  simp only [Act.put, List.setIfInBounds_toArray, List.set_cons_zero, List.set_cons_succ]
                  refine wpParts_det (by rfl) (fun W hE hN => ?_) ?_
                  · go_simp; refine ⟨Below.refl _ _, ?_⟩; rfl
                  simp only [Act.put, List.setIfInBounds_toArray, List.set_cons_zero, List.set_cons_succ]
                  refine wpParts_det (by rfl) (fun W hE hN => ?_) ?_
                  · go_simp; refine ⟨Below.refl _ _, ?_⟩; rfl
                  simp only [Act.put, List.setIfInBounds_toArray, List.set_cons_zero, List.set_cons_succ]
                  refine wpParts_det (by rfl) (fun W hE hN => ?_) ?_
                  · have hc := fun b o h => hE.cell (p := ⟨b, o, none⟩) h
                    go_simp; refine ⟨Below.refl _ _, ?_⟩; rfl
                  simp only [Act.put, List.setIfInBounds_toArray, List.set_cons_zero, List.set_cons_succ]
                  refine wpParts_det (by rfl) (fun W hE hN => ?_) ?_
                  · go_simp; refine ⟨Below.refl _ _, ?_⟩; rfl
                  simp only [Act.put, List.setIfInBounds_toArray, List.set_cons_zero, List.set_cons_succ]
                  refine wpParts_det (by rfl) (fun W hE hN => ?_) ?_
                  · go_simp; refine ⟨Below.refl _ _, ?_⟩; rfl
                  simp only [Act.put, List.setIfInBounds_toArray, List.set_cons_zero, List.set_cons_succ]
                  refine wpParts_det (by rfl) (fun W hE hN => ?_) ?_
                  · go_simp; refine ⟨Below.refl _ _, ?_⟩; rfl
                  simp only [Act.put, List.setIfInBounds_toArray, List.set_cons_zero, List.set_cons_succ]
                  refine wpParts_skip ?_ ?_
                  · rfl
                  simp only [Act.put, List.setIfInBounds_toArray, List.set_cons_zero, List.set_cons_succ]
                  refine wpParts_skip ?_ ?_
                  · rfl
                  simp only [Act.put, List.setIfInBounds_toArray, List.set_cons_zero, List.set_cons_succ]
                  refine wpParts_skip ?_ ?_
                  · rfl
                  simp only [Act.put, List.setIfInBounds_toArray, List.set_cons_zero, List.set_cons_succ]
                  refine wpParts_skip ?_ ?_
                  · rfl
                  simp only [Act.put, List.setIfInBounds_toArray, List.set_cons_zero, List.set_cons_succ]
                  refine wpParts_skip ?_ ?_
                  · rfl
                  simp only [Act.put, List.setIfInBounds_toArray, List.set_cons_zero, List.set_cons_succ]
                  refine wpParts_skip ?_ ?_
                  · rfl
                  simp only [Act.put, List.setIfInBounds_toArray, List.set_cons_zero, List.set_cons_succ]
                  refine wpParts_skip ?_ ?_
                  · rfl
                  simp only [Act.put, List.setIfInBounds_toArray, List.set_cons_zero, List.set_cons_succ]
                  refine wpParts_det (by rfl) (fun W hE hN => ?_) ?_
                  · go_simp; refine ⟨Below.refl _ _, ?_⟩; rfl
                  simp only [Act.put, List.setIfInBounds_toArray, List.set_cons_zero, List.set_cons_succ]
                  refine wpParts_det (by rfl) (fun W hE hN => ?_) ?_
                  · go_simp; refine ⟨Below.refl _ _, ?_⟩; rfl
                  simp only [Act.put, List.setIfInBounds_toArray, List.set_cons_zero, List.set_cons_succ]
                  refine wpParts_end fun W2 hE2 hG2 => ?_
                  have hcW2 := fun b o h => hE2.cell (p := ⟨b, o, none⟩) h
                  have hfW2 := fun b o h => hE2.frozen (p := ⟨b, o, none⟩) h
                  go_wp2
                  go_ret
                  exact ⟨rfl, (by repeat (first | (with_reducible exact Below.refl _ _) | (with_reducible exact Below.refl _ _) | (with_reducible refine Below.setCell ?_ (by first | omega | (simp; done) | (simp; omega)) _) | (with_reducible refine Below.alloc ?_ (by first | omega | (simp; done) | (simp; omega)) _) | (with_reducible refine Below.drew ?_) | (with_reducible refine below_drewN ?_ _) | (with_reducible refine Below.trans ?_ (hE2.mono (by first | omega | (simp; done) | (simp; omega))))))⟩
end Go.Proofs.YtmcmknndhppljaaDoor

namespace Go.Dav
set_option linter.unusedVariables false
set_option linter.unusedSimpArgs false
open Go Go.RowKit
/-- Only the blocks that p names are written; new ones may have come. -/
structure OnlyS (p : Nat → Prop) (w w' : World) : Prop where
  os : w'.os = w.os
  tape : w'.tape = w.tape
  output : w'.output = w.output
  size : w.heap.size ≤ w'.heap.size
  block : ∀ k, k < w.heap.size → ¬ p k → w'.heap[k]? = w.heap[k]?
theorem OnlyS.refl (p : Nat → Prop) (w : World) : OnlyS p w w := ⟨rfl, rfl, rfl, Nat.le_refl _, fun _ _ _ => rfl⟩
theorem OnlyS.set {p : Nat → Prop} {w w' : World} (h : OnlyS p w w') (q i : Nat) (v : Value) (hq : p q) : OnlyS p w (w'.setCell ⟨q, i, none⟩ v) :=
  ⟨h.os, h.tape, h.output, by simpa using h.size, fun k hk hne => (Below.heap_setCell w' ⟨q, i, none⟩ v k (fun e => hne (by cases e; exact hq))).trans (h.block k hk hne)⟩
theorem OnlyS.ext {p : Nat → Prop} {w w' w'' : World} (h : OnlyS p w w') (hb : Below w'.heap.size w' w'') : OnlyS p w w'' :=
  ⟨hb.os.trans h.os, hb.tape.trans h.tape, hb.output.trans h.output, Nat.le_trans h.size hb.size, fun k hk hne => (hb.block k (Nat.lt_of_lt_of_le hk h.size)).trans (h.block k hk hne)⟩
theorem OnlyS.of_below {p : Nat → Prop} {w w' : World} (h : Below w.heap.size w w') : OnlyS p w w' := (OnlyS.refl p w).ext h
theorem OnlyS.below {p : Nat → Prop} {w w' : World} {n : Nat} (h : OnlyS p w w') (hn : n ≤ w.heap.size) (hp : ∀ k, p k → n ≤ k) : Below n w w' :=
  ⟨h.os, h.tape, h.output, h.size, fun k hk => h.block k (by omega) fun hpk => by have := hp k hpk; omega⟩
theorem Blk.onlyS {p : Nat → Prop} {W W' : World} {q : Nat} {cs : List Value} {t : TypeId} (h : Blk W q cs t) (k : OnlyS p W W') (hne : ¬ p q) : Blk W' q cs t := (k.block q h.lt hne).trans h
end Go.Dav
