/-
  Layer 4, the reference: Nodes, Depth, walked.
  Layer 4 in plain: sameness goes both ways, and a right value is the same as itself.
  The reference of layer 4: Same, walked.
  Layer 4 in plain: what a right value is: good, of at most 8 levels and 256 nodes; its kids; its keys.
  Layer 4: reaches, walked.
-/
import Derived.Test.YtmcmknndhppljaaDoorVbL
import Derived.Test.YtmcmknndhppljaaDoorVbG
namespace Go.Dav
set_option linter.unusedVariables false
set_option linter.unusedSimpArgs false
open Go Go.RowKit
theorem sum_take {K : Type} (f : K → Nat) {l : List K} {i : Nat} {y : K} (h : l[i]? = some y) : ((l.take (i + 1)).map f).sum = ((l.take i).map f).sum + f y := by
  rw [List.take_add_one, h]; simp
theorem sum_le {K : Type} (f : K → Nat) (l : List K) (i : Nat) : ((l.take i).map f).sum ≤ (l.map f).sum := by
  conv => rhs; rw [← List.take_append_drop i l]
  rw [List.map_append, List.sum_append]; omega
theorem kid_le {K : Type} (f : K → Nat) {l : List K} {i : Nat} {y : K} (h : l[i]? = some y) : f y ≤ (l.map f).sum := by
  have := sum_le f l (i + 1); rw [sum_take f h] at this; omega
theorem foldr_max (l : List Nat) (c : Nat) : l.foldr max c = max (l.foldr max 0) c := by
  induction l with
  | nil => simp
  | cons x l ih => rw [List.foldr_cons, List.foldr_cons, ih]; omega
theorem max_take {K : Type} (f : K → Nat) {l : List K} {i : Nat} {y : K} (h : l[i]? = some y) : ((l.take (i + 1)).map f).foldr max 0 = max (((l.take i).map f).foldr max 0) (f y) := by
  rw [List.take_add_one, h]; simp; rw [foldr_max]
theorem max_le {K : Type} (f : K → Nat) (l : List K) (i : Nat) : ((l.take i).map f).foldr max 0 ≤ (l.map f).foldr max 0 := by
  conv => rhs; rw [← List.take_append_drop i l]
  rw [List.map_append, List.foldr_append]
  have := foldr_max ((l.take i).map f) (((l.drop i).map f).foldr max 0)
  omega
theorem kid_max {K : Type} (f : K → Nat) {l : List K} {i : Nat} {y : K} (h : l[i]? = some y) : f y ≤ (l.map f).foldr max 0 := by
  have := max_le f l (i + 1); rw [max_take f h] at this; omega
end Go.Dav
namespace Go.Proofs.YtmcmknndhppljaaDoor
set_option linter.unusedVariables false
set_option linter.unusedSimpArgs false
open Go.RowKit Go.Dav
attribute [local go_sem] Gives ite_val ite_val_true

set_option maxRecDepth 8000 in
set_option maxHeartbeats 8000000 in
theorem Tryd_rNodes : ∀ (d : Nat) (x : ValN d) (v : Value) (w : World), ValAt w d v x → nodesV d x ≤ 1000000 →
    Calls Tryd.prog 41 #[v] w fun e w' => e = .returned (.int .i64 (nodesV d x : Nat)) ∧ Below w.heap.size w w'
  | 0, _, _, _, h, _ => h.elim
  | d + 1, x, v, w, hx, hm => by
    obtain ⟨ka, kl, kc, qa, ql, qc, h⟩ := hx
    obtain ⟨kind, n, s, kids, keys⟩ := x
    obtain ⟨rfl⟩ : v = .agg #[.int .i64 kind, .int .i64 n, .string s, .slice ka kl kc, .slice qa ql qc] := h.val
    have IH := Lib.hid (Tryd_rNodes d)
    have HB0 := Lib.hid (Blk.new w [.int .i64 kind, .int .i64 n, .string s, .slice ka kl kc, .slice qa ql qc] 39)
    have HK := Lib.hid h.kidsAt
    have hlen : kids.length = kl := h.hlen
    have HLEN := Lib.hid hlen
    have hfew : (kl : Int) ≤ 140737488355328 := by have := h.hfew; omega
    have hm : 1 + (kids.map (nodesV d)).sum ≤ 1000000 := hm
    show Calls Tryd.prog 41 _ w fun e w' => e = .returned (.int .i64 ((1 + (kids.map (nodesV d)).sum : Nat) : Int)) ∧ Below w.heap.size w w'
    have HM := Lib.hid hm
    have hb0 : Below w.heap.size w (w.alloc (.cells #[.int .i64 kind, .int .i64 n, .string s, .slice ka kl kc, .slice qa ql qc] 39)) := (by repeat (first | (with_reducible exact Below.refl _ _) | (with_reducible exact Below.refl _ _) | (with_reducible refine Below.setCell ?_ (by first | omega | (simp; done) | (simp; omega)) _) | (with_reducible refine Below.alloc ?_ (by first | omega | (simp; done) | (simp; omega)) _) | (with_reducible refine Below.drew ?_) | (with_reducible refine below_drewN ?_ _)))
    have BEL0 := Lib.hid hb0
    obtain ⟨r, hr⟩ : ∃ r, 1 + (kids.map (nodesV d)).sum = r := ⟨_, rfl⟩
    rw [hr]
    have HR := Lib.hid hr
    clear h hlen hm hb0 hr
    go_enter Tryd.func41, Tryd.ntmps41
    go_wp2_with fail
    go_loopw [3, 4] (fun nv ix wr => ∃ i m : Nat, i ≤ kl ∧ ix = .int .i64 (i : Int) ∧ nv = .int .i64 (m : Int) ∧ m = 1 + ((kids.take i).map (nodesV d)).sum ∧ Blk wr w.heap.size [.int .i64 kind, .int .i64 n, .string s, .slice ka kl kc, .slice qa ql qc] 39 ∧ Below w.heap.size w wr) (fun _ ix _ => kl - (intOf ix).toNat)
    case atStart => exact ⟨0, 1, Nat.zero_le _, by go_num, by go_num, by simp, HB0.out, BEL0.out⟩
    case round =>
      obtain ⟨i, m, hi, rfl, rfl, hmm, hq1, hbel⟩ := hrel
      have q1 := hq1.cells
      have l1 := hq1.lt
      have HQ1 := Lib.hid hq1
      have HBE := Lib.hid hbel
      have HMM := Lib.hid hmm
      clear hq1 hbel hmm
      by_cases hlt : i < kl
      · have g1 : (i : Int) < (kl : Int) := by omega
        obtain ⟨y, hy⟩ : ∃ y, kids[i]? = some y := ⟨_, List.getElem?_eq_getElem (by have := HLEN.out; omega)⟩
        obtain ⟨b, o, k', n', s', a1, l1', c1, a2, l2, c2, rfl, hb, x0, x1, x2, x3, x4, hval⟩ := (HK.out.ext HBE.out).get hy
        have hle := kid_le (nodesV d) hy
        have HC := Lib.hid (IH.out y _ wr hval (by have := HM.out; omega))
        obtain ⟨t, ht⟩ : ∃ t, nodesV d y = t := ⟨_, rfl⟩
        rw [ht] at HC hle
        have hst := sum_take (nodesV d) hy
        rw [ht] at hst
        have hsl := sum_le (nodesV d) kids (i + 1)
        have u1 : IntKind.i64.wrap ((m : Int) + (t : Int)) = (m : Int) + (t : Int) := by have := HMM.out; have := HM.out; exact IntWalk.i64_in _ (by omega)
        have HST := Lib.hid hst
        clear hy hval hle ht hst hsl
        go_wp2_with fail
        refine HC.out.mono ?_; rintro e w1 ⟨rfl, hb1⟩
        have hq2 := HQ1.out.ext hb1
        have q1 := hq2.cells
        have l1 := hq2.lt
        have HQ2 := Lib.hid hq2
        have HB2 := Lib.hid (HBE.out.trans (hb1.mono HBE.out.size))
        clear hb1 hq2 HC x0 x1 x2 x3 x4
        go_wp2
        go_roundw
        case rel => exact ⟨i + 1, m + t, by omega, by go_num, by go_num, by have := HMM.out; have := HST.out; omega, HQ2.out, HB2.out⟩
        case measure => simp [intOf]; omega
      · have g1 : ¬ (i : Int) < (kl : Int) := by omega
        have e1 : m = r := by rw [HMM.out, ← HR.out, List.take_of_length_le (by have := HLEN.out; omega)]
        subst e1
        go_wp2
        go_ret
        exact ⟨rfl, HBE.out⟩

set_option maxRecDepth 8000 in
set_option maxHeartbeats 8000000 in
theorem Tryd_rDepth : ∀ (d : Nat) (x : ValN d) (v : Value) (w : World), ValAt w d v x → depthV d x ≤ 1000000 →
    Calls Tryd.prog 40 #[v] w fun e w' => e = .returned (.int .i64 (depthV d x : Nat)) ∧ Below w.heap.size w w'
  | 0, _, _, _, h, _ => h.elim
  | d + 1, x, v, w, hx, hm => by
    obtain ⟨ka, kl, kc, qa, ql, qc, h⟩ := hx
    obtain ⟨kind, n, s, kids, keys⟩ := x
    obtain ⟨rfl⟩ : v = .agg #[.int .i64 kind, .int .i64 n, .string s, .slice ka kl kc, .slice qa ql qc] := h.val
    have IH := Lib.hid (Tryd_rDepth d)
    have HB0 := Lib.hid (Blk.new w [.int .i64 kind, .int .i64 n, .string s, .slice ka kl kc, .slice qa ql qc] 39)
    have HK := Lib.hid h.kidsAt
    have hlen : kids.length = kl := h.hlen
    have HLEN := Lib.hid hlen
    have hfew : (kl : Int) ≤ 140737488355328 := by have := h.hfew; omega
    have hb0 : Below w.heap.size w (w.alloc (.cells #[.int .i64 kind, .int .i64 n, .string s, .slice ka kl kc, .slice qa ql qc] 39)) := (by repeat (first | (with_reducible exact Below.refl _ _) | (with_reducible exact Below.refl _ _) | (with_reducible refine Below.setCell ?_ (by first | omega | (simp; done) | (simp; omega)) _) | (with_reducible refine Below.alloc ?_ (by first | omega | (simp; done) | (simp; omega)) _) | (with_reducible refine Below.drew ?_) | (with_reducible refine below_drewN ?_ _)))
    have BEL0 := Lib.hid hb0
    by_cases h5 : kind < 5
    · have e0 : depthV (d + 1) (⟨kind, n, s, kids, keys⟩ : ValF (ValN d)) = 0 := (show depthV (d + 1) (⟨kind, n, s, kids, keys⟩ : ValF (ValN d)) = if kind < 5 then 0 else (kids.map (depthV d)).foldr max 0 + 1 from rfl).trans (if_pos h5)
      rw [e0]
      clear h hlen hm hb0 e0
      go_enter Tryd.func40, Tryd.ntmps40
      go_wp2
      go_ret
      exact ⟨rfl, BEL0.out⟩
    · have e0 : depthV (d + 1) (⟨kind, n, s, kids, keys⟩ : ValF (ValN d)) = (kids.map (depthV d)).foldr max 0 + 1 := (show depthV (d + 1) (⟨kind, n, s, kids, keys⟩ : ValF (ValN d)) = if kind < 5 then 0 else (kids.map (depthV d)).foldr max 0 + 1 from rfl).trans (if_neg h5)
      rw [e0] at hm ⊢
      have HM := Lib.hid hm
      obtain ⟨r, hr⟩ : ∃ r, (kids.map (depthV d)).foldr max 0 = r := ⟨_, rfl⟩
      rw [hr] at hm ⊢
      have HR := Lib.hid hr
      have u9 : (r : Int) ≤ 1000000 := by omega
      clear h hlen hm hb0 hr e0
      go_enter Tryd.func40, Tryd.ntmps40
      go_wp2_with fail
      go_loopw [3, 4] (fun nv ix wr => ∃ i m : Nat, i ≤ kl ∧ ix = .int .i64 (i : Int) ∧ nv = .int .i64 (m : Int) ∧ m = ((kids.take i).map (depthV d)).foldr max 0 ∧ Blk wr w.heap.size [.int .i64 kind, .int .i64 n, .string s, .slice ka kl kc, .slice qa ql qc] 39 ∧ Below w.heap.size w wr) (fun _ ix _ => kl - (intOf ix).toNat)
      case atStart => exact ⟨0, 0, Nat.zero_le _, by go_num, by go_num, by simp, HB0.out, BEL0.out⟩
      case round =>
        obtain ⟨i, m, hi, rfl, rfl, hmm, hq1, hbel⟩ := hrel
        have q1 := hq1.cells
        have l1 := hq1.lt
        have HQ1 := Lib.hid hq1
        have HBE := Lib.hid hbel
        have HMM := Lib.hid hmm
        clear hq1 hbel hmm
        by_cases hlt : i < kl
        · have g1 : (i : Int) < (kl : Int) := by omega
          obtain ⟨y, hy⟩ : ∃ y, kids[i]? = some y := ⟨_, List.getElem?_eq_getElem (by have := HLEN.out; omega)⟩
          obtain ⟨b, o, k', n', s', a1, l1', c1, a2, l2, c2, rfl, hb, x0, x1, x2, x3, x4, hval⟩ := (HK.out.ext HBE.out).get hy
          have hle := kid_max (depthV d) hy
          have HC := Lib.hid (IH.out y _ wr hval (by have := HM.out; omega))
          obtain ⟨t, ht⟩ : ∃ t, depthV d y = t := ⟨_, rfl⟩
          rw [ht] at HC
          have hst := max_take (depthV d) hy
          rw [ht] at hst
          have HST := Lib.hid hst
          clear hy hval hle ht hst
          go_wp2_with fail
          refine HC.out.mono ?_; rintro e w1 ⟨rfl, hb1⟩
          have hq2 := HQ1.out.ext hb1
          have q1 := hq2.cells
          have l1 := hq2.lt
          have HQ2 := Lib.hid hq2
          have HB2 := Lib.hid (HBE.out.trans (hb1.mono HBE.out.size))
          clear hb1 hq2 HC x0 x1 x2 x3 x4
          by_cases hgt : m < t
          · have g2 : (m : Int) < (t : Int) := by omega
            go_wp2
            go_roundw
            case rel => exact ⟨i + 1, t, by omega, by go_num, by go_num, by have := HMM.out; have := HST.out; omega, HQ2.out, HB2.out⟩
            case measure => simp [intOf]; omega
          · have g2 : ¬ (m : Int) < (t : Int) := by omega
            go_wp2
            go_roundw
            case rel => exact ⟨i + 1, m, by omega, by go_num, by go_num, by have := HMM.out; have := HST.out; omega, HQ2.out, HB2.out⟩
            case measure => simp [intOf]; omega
        · have g1 : ¬ (i : Int) < (kl : Int) := by omega
          have e1 : m = r := by rw [HMM.out, ← HR.out, List.take_of_length_le (by have := HLEN.out; omega)]
          subst e1
          go_wp2
          go_ret
          exact ⟨rfl, HBE.out⟩
end Go.Proofs.YtmcmknndhppljaaDoor

namespace Go.Dav
set_option linter.unusedVariables false
set_option linter.unusedSimpArgs false
open Go Go.RowKit
theorem equalL_symm {K J : Type} {f : K → J → Bool} {g : J → K → Bool} (h : ∀ x y, f x y = g y x) : ∀ (l : List K) (m : List J), equalL f l m = equalL g m l
  | [], [] => rfl
  | [], _ :: _ => rfl
  | _ :: _, [] => rfl
  | x :: l, y :: m => by unfold equalL; rw [h x y, equalL_symm h l m]
theorem equalL_self {K : Type} {f : K → K → Bool} : ∀ (l : List K), (∀ x ∈ l, f x x = true) → equalL f l l = true
  | [], _ => rfl
  | x :: l, h => by unfold equalL; rw [h x (by simp), equalL_self l fun y hy => h y (by simp [hy])]; rfl
theorem sameKeys_symm : ∀ (l m : List ByteArray), sameKeys l m = sameKeys m l
  | [], [] => rfl
  | [], _ :: _ => rfl
  | _ :: _, [] => rfl
  | x :: l, y :: m => by unfold sameKeys; rw [sameKeys_symm l m, show (x.toList == y.toList) = (y.toList == x.toList) from Bool.beq_comm]
theorem sameKeys_self : ∀ (l : List ByteArray), sameKeys l l = true
  | [] => rfl
  | x :: l => by unfold sameKeys; rw [sameKeys_self l]; simp
theorem equalV_symm : ∀ (d e : Nat) (x : ValN d) (y : ValN e), equalV d e x y = equalV e d y x
  | 0, 0, _, _ => rfl
  | 0, _ + 1, _, _ => rfl
  | _ + 1, 0, _, _ => rfl
  | d + 1, e + 1, x, y => by
    unfold equalV
    rw [equalL_symm (equalV_symm d e) x.to.kids y.to.kids, show decide (x.to.kind = y.to.kind) = decide (y.to.kind = x.to.kind) from decide_eq_decide.2 eq_comm, show decide (x.to.n = y.to.n) = decide (y.to.n = x.to.n) from decide_eq_decide.2 eq_comm, show (x.to.s.toList == y.to.s.toList) = (y.to.s.toList == x.to.s.toList) from Bool.beq_comm, sameKeys_symm]
theorem equalV_self : ∀ (d : Nat) (x : ValN d), goodV d x = true → equalV d d x x = true
  | 0, _, h => by cases h
  | d + 1, x, h => by
    unfold equalV
    rw [equalL_self x.to.kids fun y hy => equalV_self d y ((good_alone2 h).2 y hy), sameKeys_self]
    simp
theorem sameV_equal {d e : Nat} {x : ValN d} {y : ValN e} (hx : rightV d x = true) (hy : rightV e y = true) : sameV d e x y = equalV d e x y := by
  unfold sameV; rw [hx, hy, equal_one d e x y (right_good hx) (right_good hy)]; rfl
theorem sameV_symm (d e : Nat) (x : ValN d) (y : ValN e) : sameV d e x y = sameV e d y x := by
  cases hx : rightV d x with
  | false => unfold sameV; rw [hx]; simp
  | true =>
    cases hy : rightV e y with
    | false => unfold sameV; rw [hy]; simp
    | true => rw [sameV_equal hx hy, sameV_equal hy hx, equalV_symm]
theorem sameV_self (d : Nat) (x : ValN d) : sameV d d x x = rightV d x := by
  cases hx : rightV d x with
  | false => unfold sameV; rw [hx]; rfl
  | true => rw [sameV_equal hx hx, equalV_self d x (right_good hx)]
end Go.Dav

namespace Go.Proofs.YtmcmknndhppljaaDoor
set_option linter.unusedVariables false
set_option linter.unusedSimpArgs false
open Go.RowKit Go.Dav
attribute [local go_sem] Gives ite_val ite_val_true

set_option maxRecDepth 8000 in
set_option maxHeartbeats 4000000 in
theorem Tryd_rSame (d e : Nat) (x : ValN d) (y : ValN e) (v u : Value) (w : World) (hx : ValAt w d v x) (hy : ValAt w e u y) :
    Calls Tryd.prog 22 #[v, u] w fun e' w' => e' = .returned (.bool (sameV d e x y)) ∧ Below w.heap.size w w' := by
  have HX := Lib.hid hx
  have HY := Lib.hid hy
  obtain ⟨d', rfl⟩ : ∃ d', d = d' + 1 := by
    cases d with
    | zero => exact hx.elim
    | succ d => exact ⟨d, rfl⟩
  obtain ⟨e', rfl⟩ : ∃ d', e = d' + 1 := by
    cases e with
    | zero => exact hy.elim
    | succ d => exact ⟨d, rfl⟩
  obtain ⟨ka, kl, kc, qa, ql, qc, h⟩ := hx
  obtain ⟨ma, ml, mc, ra, rl, rc, g⟩ := hy
  have hv := h.val
  have hu := g.val
  subst hv hu
  clear h g
  obtain ⟨kind, hkd⟩ : ∃ k, x.to.kind = k := ⟨_, rfl⟩
  obtain ⟨n, hn⟩ : ∃ k, x.to.n = k := ⟨_, rfl⟩
  obtain ⟨s, hs⟩ : ∃ k, x.to.s = k := ⟨_, rfl⟩
  obtain ⟨kind', hkd'⟩ : ∃ k, y.to.kind = k := ⟨_, rfl⟩
  obtain ⟨n', hn'⟩ : ∃ k, y.to.n = k := ⟨_, rfl⟩
  obtain ⟨s', hs'⟩ : ∃ k, y.to.s = k := ⟨_, rfl⟩
  rw [hkd, hn, hs] at HX ⊢
  rw [hkd', hn', hs'] at HY ⊢
  clear hkd hn hs hkd' hn' hs'
  obtain ⟨W0, hW0⟩ : ∃ W0, (w.alloc (.cells #[.int .i64 kind, .int .i64 n, .string s, .slice ka kl kc, .slice qa ql qc] 39)).alloc (.cells #[.int .i64 kind', .int .i64 n', .string s', .slice ma ml mc, .slice ra rl rc] 39) = W0 := ⟨_, rfl⟩
  have bel0 : Below w.heap.size w W0 := by rw [← hW0]; exact (by repeat (first | (with_reducible exact Below.refl _ _) | (with_reducible exact Below.refl _ _) | (with_reducible refine Below.setCell ?_ (by first | omega | (simp; done) | (simp; omega)) _) | (with_reducible refine Below.alloc ?_ (by first | omega | (simp; done) | (simp; omega)) _) | (with_reducible refine Below.drew ?_) | (with_reducible refine below_drewN ?_ _)))
  have HB0 := Lib.hid (show Blk W0 w.heap.size [.int .i64 kind, .int .i64 n, .string s, .slice ka kl kc, .slice qa ql qc] 39 by rw [← hW0]; exact (Blk.new _ _ _).alloc _)
  have HC0 := Lib.hid (show Blk W0 (w.heap.size + 1) [.int .i64 kind', .int .i64 n', .string s', .slice ma ml mc, .slice ra rl rc] 39 by rw [← hW0]; exact Blk.new' _ _ _ (by simp))
  have BEL0 := Lib.hid bel0
  have HW0 := Lib.hid hW0
  obtain ⟨r, hr⟩ : ∃ r, sameV (d' + 1) (e' + 1) x y = r := ⟨_, rfl⟩
  rw [hr]
  have HR := Lib.hid hr
  clear bel0 hW0 hr
  go_enter Tryd.func22, Tryd.ntmps22
  go_wp2_with fail
  rw [HW0.out]
  refine (Tryd_rRight (d' + 1) x _ W0 (ValAt.ext BEL0.out _ HX.out)).mono ?_; rintro e1 w1 ⟨rfl, hb1⟩
  have HB1 := Lib.hid (HB0.out.ext hb1)
  have HC1 := Lib.hid (HC0.out.ext hb1)
  have BEL1 := Lib.hid (BEL0.out.trans (hb1.mono BEL0.out.size))
  have q1 := HB1.out.cells
  have l1 := HB1.out.lt
  have q2 := HC1.out.cells
  have l2 := HC1.out.lt
  clear hb1 HB0 HC0 BEL0 HW0
  obtain ⟨rx, hrx⟩ : ∃ r, rightV (d' + 1) x = r := ⟨_, rfl⟩
  have HRX := Lib.hid hrx
  rw [hrx]
  clear hrx
  cases rx with
  | false =>
    have e2 : r = false := by rw [← HR.out]; unfold sameV; rw [HRX.out, Bool.false_and]
    clear HR
    subst e2
    go_wp2
    go_ret
    exact ⟨rfl, BEL1.out⟩
  | true =>
    go_wp2_with fail
    refine (Tryd_rRight (e' + 1) y _ w1 (ValAt.ext BEL1.out _ HY.out)).mono ?_; rintro e1 w2 ⟨rfl, hb2⟩
    have HB2 := Lib.hid (HB1.out.ext hb2)
    have HC2 := Lib.hid (HC1.out.ext hb2)
    have BEL2 := Lib.hid (BEL1.out.trans (hb2.mono BEL1.out.size))
    clear hb2 q1 l1 q2 l2 HB1 HC1 BEL1
    have q1 := HB2.out.cells
    have l1 := HB2.out.lt
    have q2 := HC2.out.cells
    have l2 := HC2.out.lt
    obtain ⟨ry, hry⟩ : ∃ r, rightV (e' + 1) y = r := ⟨_, rfl⟩
    have HRY := Lib.hid hry
    rw [hry]
    clear hry
    cases ry with
    | false =>
      have e2 : r = false := by rw [← HR.out]; unfold sameV; rw [HRX.out, HRY.out]; rfl
      clear HR
      subst e2
      go_wp2
      go_ret
      exact ⟨rfl, BEL2.out⟩
    | true =>
      have hgx : goodV (d' + 1) x = true := withinV_good _ x 8 256 (by have h := HRX.out; unfold rightV at h; rw [decide_eq_true_eq] at h; omega)
      have hgy : goodV (e' + 1) y = true := withinV_good _ y 8 256 (by have h := HRY.out; unfold rightV at h; rw [decide_eq_true_eq] at h; omega)
      have hA := Tryd_rOne (d' + 1) (e' + 1) x y _ _ w2 (ValAt.ext BEL2.out _ HX.out) (ValAt.ext BEL2.out _ HY.out) hgx hgy
      rw [show oneV (d' + 1) (e' + 1) x y = r by rw [← HR.out]; unfold sameV; rw [HRX.out, HRY.out, Bool.true_and, Bool.true_and]] at hA
      have HA := Lib.hid hA
      clear hA hgx hgy
      go_wp2_with fail
      refine HA.out.mono ?_; rintro e1 w3 ⟨rfl, hb3⟩
      have BEL3 := Lib.hid (BEL2.out.trans (hb3.mono BEL2.out.size))
      clear hb3 HA
      go_wp2
      go_ret
      exact ⟨rfl, BEL3.out⟩
end Go.Proofs.YtmcmknndhppljaaDoor

namespace Go.Dav
set_option linter.unusedVariables false
set_option linter.unusedSimpArgs false
open Go Go.RowKit
theorem foldr_max_le {l : List Nat} {L : Nat} : l.foldr max 0 ≤ L ↔ ∀ a ∈ l, a ≤ L := by
  induction l with
  | nil => simp
  | cons x l ih =>
    rw [List.foldr_cons]
    constructor
    · intro h a ha
      rcases List.mem_cons.1 ha with rfl | ha
      · omega
      · exact ih.1 (by omega) a ha
    · intro h
      have h1 := h x (by simp)
      have h2 := ih.2 fun a ha => h a (by simp [ha])
      omega
theorem nodes_pos : ∀ {d : Nat} {x : ValN d}, goodV d x = true → 1 ≤ nodesV d x
  | 0, _, h => by cases h
  | d + 1, x, _ => by unfold nodesV; omega
theorem alone_leaf {K : Type} {x : ValF K} (h : aloneB x = true) (hk : x.kind < 5) : x.kids = [] := by
  unfold aloneB at h
  rw [Bool.and_eq_true] at h
  have h2 := h.2
  have h5 : ¬ x.kind = 5 := by omega
  have h6 : ¬ x.kind = 6 := by omega
  rw [if_neg h5, if_neg h6] at h2
  have : x.kids.length = 0 := by
    split at h2
    · simp only [Bool.and_eq_true, decide_eq_true_eq] at h2; exact h2.2.2.1
    · split at h2
      · simp only [Bool.and_eq_true, decide_eq_true_eq] at h2; exact h2.2.2.1
      · split at h2
        · simp only [Bool.and_eq_true, decide_eq_true_eq] at h2; exact h2.2.1
        · split at h2
          · simp only [Bool.and_eq_true, decide_eq_true_eq] at h2; exact h2.2.2.1
          · cases h2
  exact List.eq_nil_of_length_eq_zero this
theorem alone_keys6 {K : Type} {x : ValF K} (h : aloneB x = true) (hk : 0 < x.keys.length) : x.kind = 6 ∧ x.kids.length = x.keys.length := by
  unfold aloneB at h
  rw [Bool.and_eq_true] at h
  have h2 := h.2
  by_cases h6 : x.kind = 6
  · rw [if_neg (by omega), if_neg (by omega), if_neg (by omega), if_neg (by omega), if_neg (by omega), if_pos h6] at h2
    simp only [Bool.and_eq_true, decide_eq_true_eq] at h2
    exact ⟨h6, h2.2.2⟩
  · exfalso
    rw [if_neg h6] at h2
    split at h2
    · simp only [Bool.and_eq_true, decide_eq_true_eq] at h2; omega
    · split at h2
      · simp only [Bool.and_eq_true, decide_eq_true_eq] at h2; omega
      · split at h2
        · simp only [Bool.and_eq_true, decide_eq_true_eq] at h2; omega
        · split at h2
          · simp only [Bool.and_eq_true, decide_eq_true_eq] at h2; omega
          · split at h2
            · simp only [Bool.and_eq_true, decide_eq_true_eq] at h2; omega
            · cases h2
theorem within_iffL {d : Nat} (hd : ∀ (x : ValN d) (L : Nat) (m : Int), withinV d x L m ≠ 0 ↔ goodV d x = true ∧ depthV d x ≤ L ∧ (nodesV d x : Int) ≤ m) (L : Nat) (m : Int) :
    ∀ (l : List (ValN d)) (k : Nat), 1 ≤ k → (k : Int) ≤ m → (withinL (withinV d) L m l k ≠ 0 ↔ (∀ y ∈ l, goodV d y = true ∧ depthV d y ≤ L) ∧ ((k + (l.map (nodesV d)).sum : Nat) : Int) ≤ m)
  | [], k, hk, hm => by
    refine ⟨fun _ => ⟨fun y hy => by simp at hy, by simpa using hm⟩, fun _ => ?_⟩
    show k ≠ 0
    omega
  | y :: ys, k, hk, hm => by
    have e : withinL (withinV d) L m (y :: ys) k = if withinV d y L (m - k) = 0 then 0 else withinL (withinV d) L m ys (k + withinV d y L (m - k)) := rfl
    rw [e]
    have hy := hd y L (m - k)
    by_cases h0 : withinV d y L (m - k) = 0
    · rw [if_pos h0]
      refine ⟨fun h => (h rfl).elim, fun ⟨h1, h2⟩ => ?_⟩
      have := h1 y (by simp)
      exact (hy.2 ⟨this.1, this.2, by rw [List.map_cons, List.sum_cons] at h2; omega⟩ h0).elim
    · rw [if_neg h0]
      obtain ⟨g1, g2, g3⟩ := hy.1 h0
      have hn := within_nodes d y L (m - k) h0
      rw [hn]
      have ih := within_iffL hd L m ys (k + nodesV d y) (by omega) (by omega)
      rw [ih, List.map_cons, List.sum_cons]
      constructor
      · rintro ⟨h1, h2⟩
        refine ⟨fun z hz => ?_, by omega⟩
        rcases List.mem_cons.1 hz with rfl | hz
        · exact ⟨g1, g2⟩
        · exact h1 z hz
      · rintro ⟨h1, h2⟩
        exact ⟨fun z hz => h1 z (by simp [hz]), by omega⟩
theorem within_iff : ∀ (d : Nat) (x : ValN d) (L : Nat) (m : Int), withinV d x L m ≠ 0 ↔ goodV d x = true ∧ depthV d x ≤ L ∧ (nodesV d x : Int) ≤ m
  | 0, _, _, _ => ⟨fun h => (h rfl).elim, fun h => by cases h.1⟩
  | d + 1, x, L, m => by
    have eg : goodV (d + 1) x = (aloneB x.to && x.to.kids.all (goodV d)) := rfl
    have en : nodesV (d + 1) x = 1 + (x.to.kids.map (nodesV d)).sum := rfl
    have ed : depthV (d + 1) x = if x.to.kind < 5 then 0 else ((x.to.kids.map (depthV d)).foldr max 0) + 1 := rfl
    by_cases hno : m < 1 ∨ aloneB x.to = false ∨ (5 ≤ x.to.kind ∧ L = 0)
    · rw [withinV_no hno]
      refine ⟨fun h => (h rfl).elim, fun ⟨h1, h2, h3⟩ => ?_⟩
      rw [eg, Bool.and_eq_true] at h1
      rw [ed] at h2
      rw [en] at h3
      rcases hno with h | h | h
      · omega
      · rw [h] at h1; cases h1.1
      · rw [if_neg (by omega)] at h2; omega
    · rw [withinV_yes hno]
      have hm : ¬ m < 1 := fun h => hno (.inl h)
      have ha : aloneB x.to = true := by
        cases h : aloneB x.to with
        | true => rfl
        | false => exact (hno (.inr (.inl h))).elim
      have hL : 5 ≤ x.to.kind → L ≠ 0 := fun h e => hno (.inr (.inr ⟨h, e⟩))
      rw [within_iffL (within_iff d) (L - 1) m x.to.kids 1 (Nat.le_refl _) (by omega), eg, en, ed, Bool.and_eq_true, List.all_eq_true]
      by_cases h5 : x.to.kind < 5
      · rw [if_pos h5, alone_leaf ha h5]
        simp [ha]
      · rw [if_neg h5]
        have hL := hL (by omega)
        constructor
        · rintro ⟨h1, h2⟩
          refine ⟨⟨ha, fun y hy => (h1 y hy).1⟩, ?_, h2⟩
          have : (x.to.kids.map (depthV d)).foldr max 0 ≤ L - 1 := foldr_max_le.2 fun a hA => by
            obtain ⟨y, hy, rfl⟩ := List.mem_map.1 hA
            exact (h1 y hy).2
          omega
        · rintro ⟨⟨_, h1⟩, h2, h3⟩
          refine ⟨fun y hy => ⟨h1 y hy, ?_⟩, h3⟩
          exact foldr_max_le.1 (show (x.to.kids.map (depthV d)).foldr max 0 ≤ L - 1 by omega) _ (List.mem_map.2 ⟨y, hy, rfl⟩)
theorem right_iff {d : Nat} {x : ValN d} : rightV d x = true ↔ goodV d x = true ∧ depthV d x ≤ 8 ∧ nodesV d x ≤ 256 := by
  have h := within_iff d x 8 256
  unfold rightV
  rw [decide_eq_true_eq]
  constructor
  · intro k
    obtain ⟨a, b, c⟩ := h.1 (by omega)
    exact ⟨a, b, by omega⟩
  · rintro ⟨a, b, c⟩
    have := h.2 ⟨a, b, by omega⟩
    omega
theorem right_kid {d : Nat} {x : ValN (d + 1)} (h : rightV (d + 1) x = true) {i : Nat} {y : ValN d} (hy : x.to.kids[i]? = some y) : rightV d y = true := by
  obtain ⟨h1, h2, h3⟩ := right_iff.1 h
  have hm := List.mem_of_getElem? hy
  have ed : depthV (d + 1) x = if x.to.kind < 5 then 0 else ((x.to.kids.map (depthV d)).foldr max 0) + 1 := rfl
  have en : nodesV (d + 1) x = 1 + (x.to.kids.map (nodesV d)).sum := rfl
  refine right_iff.2 ⟨(good_alone2 h1).2 y hm, ?_, ?_⟩
  · have := kid_max (depthV d) hy
    rw [ed] at h2
    by_cases h5 : x.to.kind < 5
    · rw [alone_leaf (good_alone2 h1).1 h5] at hm; simp at hm
    · rw [if_neg h5] at h2; omega
  · have := kid_le (nodesV d) hy
    omega
theorem getV_at {d : Nat} {x : ValN (d + 1)} (h : rightV (d + 1) x = true) {i : Nat} {y : ValN d} {key : ByteArray} (hk : x.to.keys[i]? = some key) (hy : x.to.kids[i]? = some y) : getV d x key = some y := by
  have ha := right_alone h
  have hi := (List.getElem?_eq_some_iff.1 hk).1
  obtain ⟨h6, hl⟩ := alone_keys6 ha (by omega)
  have hat : isAtS x.to.keys i key = true := by unfold isAtS; rw [hk]; simp
  have := keys_at (alone_keysTo ha) hat
  unfold getV
  rw [← this, if_pos ⟨h6, h, hat⟩]
  exact hy
theorem path_one {d : Nat} {x : ValN (d + 1)} {y : ValN d} {key : ByteArray} (h : rightV (d + 1) x = true) (hg : getV d x key = some y) : pathR (d + 1) x [key] = some ⟨d, y⟩ := by
  unfold pathR
  rw [if_pos h, pathV_cons, hg]
  exact pathV_nil
end Go.Dav

namespace Go.Proofs.YtmcmknndhppljaaDoor
set_option linter.unusedVariables false
set_option linter.unusedSimpArgs false
open Go.RowKit Go.Dav
attribute [local go_sem] Gives ite_val ite_val_true

set_option maxRecDepth 8000 in
set_option maxHeartbeats 8000000 in
theorem Tryd_reaches (d e : Nat) (x : ValN (d + 1)) (y : ValN d) (z : ValN e) (v u : Value) (key : ByteArray) (w : World) (hv : ValAt w (d + 1) v x) (hu : ValAt w e u z) (hr : rightV (d + 1) x = true) (hg : getV d x key = some y) (hs : sameV d e y z = true) (hk : key.size ≤ 17592186044416) (hN : GlobAt w 0 [.int .i64 0, .int .i64 0] 143) :
    Calls Tryd.prog 42 #[v, .string key, u] w fun e' w' => e' = .returned (.bool true) ∧ Below w.heap.size w w' := by
  obtain ⟨k1, n1, s1, a1, l1, c1, a2, l2, c2, rfl⟩ := hv.agg
  obtain ⟨k2, n2, s2, b1, m1, d1, b2, m2, d2, rfl⟩ := hu.agg
  have hgl : ∀ W, Below w.heap.size w W → GlobAt W 0 [.int .i64 0, .int .i64 0] 143 := fun W hb => hN.ext hb
  have HGT := Lib.hid (fun W (hb : Below w.heap.size w W) => by have q := Tryd_Get d x _ key w W hv hb (hgl W hb); rw [hg] at q; exact q)
  have HPT := Lib.hid (fun W g (hb : Below w.heap.size w W) (hbl : Blk W g [.string key] 9) => by
    have q := Tryd_Path d x _ (some ⟨g, 0, none⟩) 1 1 [key] w W hv hb ⟨rfl, Nat.le_refl _, by unfold maxLen; omega, by omega, fun k s hks => by
      obtain ⟨rfl, rfl⟩ : k = 0 ∧ s = key := by
        cases k with
        | zero => simpa using hks.symm
        | succ k => simp at hks
      exact ⟨g, 0, rfl, hbl.lt, hbl.cell 0 rfl⟩, (fun h => by cases h), fun s hss => by simp at hss; rw [hss]; exact hk⟩ (hgl W hb)
    rw [path_one hr hg] at q
    exact q)
  have HSM := Lib.hid (fun W v' (hb : Below w.heap.size w W) (h : ValAt w d v' y) => by have q := Tryd_vSame d e y z v' _ W (ValAt.ext hb d h) (ValAt.ext hb e hu) (hgl W hb); rw [hs] at q; exact q)
  have b0 : Below w.heap.size w ((w.alloc (.cells #[.int .i64 k1, .int .i64 n1, .string s1, .slice a1 l1 c1, .slice a2 l2 c2] 39)).alloc (.cells #[.int .i64 k2, .int .i64 n2, .string s2, .slice b1 m1 d1, .slice b2 m2 d2] 39)) := (by repeat (first | (with_reducible exact Below.refl _ _) | (with_reducible exact Below.refl _ _) | (with_reducible refine Below.setCell ?_ (by first | omega | (simp; done) | (simp; omega)) _) | (with_reducible refine Below.alloc ?_ (by first | omega | (simp; done) | (simp; omega)) _) | (with_reducible refine Below.drew ?_) | (with_reducible refine below_drewN ?_ _)))
  have B0 := Lib.hid b0
  have X0 := Lib.hid ((Blk.new w [.int .i64 k1, .int .i64 n1, .string s1, .slice a1 l1 c1, .slice a2 l2 c2] 39).alloc (.cells #[.int .i64 k2, .int .i64 n2, .string s2, .slice b1 m1 d1, .slice b2 m2 d2] 39))
  have Y0 := Lib.hid (Blk.new' (w.alloc (.cells #[.int .i64 k1, .int .i64 n1, .string s1, .slice a1 l1 c1, .slice a2 l2 c2] 39)) [.int .i64 k2, .int .i64 n2, .string s2, .slice b1 m1 d1, .slice b2 m2 d2] 39 (p := w.heap.size + 1) (by simp))
  clear hr hg hs hgl hv hu hN b0
  go_enter Tryd.func42, Tryd.ntmps42
  go_wp2_with fail
  refine (HGT.out _ B0.out).mono ?_; rintro e' w1 ⟨⟨u1, rfl, ht1⟩, hb1⟩
  obtain ⟨u1, rfl, hu1⟩ := (show ∃ u, _ ∧ _ from ht1)
  have hu1 : ValAt w d u1 y := hu1
  obtain ⟨k3, n3, s3, e1, f1, g1, e2, f2, g2, rfl⟩ := hu1.agg
  have B1 := Lib.hid (B0.out.trans (hb1.mono B0.out.size))
  have X1 := Lib.hid ((X0.out.ext hb1).alloc (.cells #[.int .i64 k3, .int .i64 n3, .string s3, .slice e1 f1 g1, .slice e2 f2 g2] 39))
  have Y1 := Lib.hid ((Y0.out.ext hb1).alloc (.cells #[.int .i64 k3, .int .i64 n3, .string s3, .slice e1 f1 g1, .slice e2 f2 g2] 39))
  have Z1 := Lib.hid (Blk.new w1 [.int .i64 k3, .int .i64 n3, .string s3, .slice e1 f1 g1, .slice e2 f2 g2] 39)
  have U1 := Lib.hid hu1
  have q1 := X1.out.cells
  have lt1 := X1.out.lt
  have bA : Below w.heap.size w ((w1.alloc (.cells #[.int .i64 k3, .int .i64 n3, .string s3, .slice e1 f1 g1, .slice e2 f2 g2] 39)).alloc (.cells #[.string key] 9)) := by have h := B1.out; have s := h.size; exact (by repeat (first | (with_reducible exact Below.refl _ _) | (with_reducible exact Below.refl _ _) | (with_reducible refine Below.setCell ?_ (by first | omega | (simp; done) | (simp; omega)) _) | (with_reducible refine Below.alloc ?_ (by first | omega | (simp; done) | (simp; omega)) _) | (with_reducible refine Below.drew ?_) | (with_reducible refine below_drewN ?_ _) | (with_reducible refine Below.trans ?_ (h.mono (by first | omega | (simp; done) | (simp; omega))))))
  have BA := Lib.hid bA
  clear hb1 HGT X0 Y0 B0 hu1 ht1 bA
  go_wp2_with fail
  (with_reducible refine (HPT.out _ (w1.heap.size + 1) BA.out (Blk.new' _ _ _ (by simp))).mono ?_); rintro e' w2 ⟨⟨u2, rfl, ht2⟩, hb2⟩
  obtain ⟨u2, rfl, hu2⟩ := (show ∃ u, _ ∧ _ from ht2)
  have hu2 : ValAt w d u2 y := hu2
  obtain ⟨k4, n4, s4, h1, i1, j1, h2, i2, j2, rfl⟩ := hu2.agg
  have B2 := Lib.hid ((BA.out.trans (hb2.mono BA.out.size)))
  have Y2 := Lib.hid (((Y1.out.alloc (.cells #[.string key] 9)).ext hb2).alloc (.cells #[.int .i64 k4, .int .i64 n4, .string s4, .slice h1 i1 j1, .slice h2 i2 j2] 39))
  have Z2 := Lib.hid (((Z1.out.alloc (.cells #[.string key] 9)).ext hb2).alloc (.cells #[.int .i64 k4, .int .i64 n4, .string s4, .slice h1 i1 j1, .slice h2 i2 j2] 39))
  have V2 := Lib.hid (Blk.new w2 [.int .i64 k4, .int .i64 n4, .string s4, .slice h1 i1 j1, .slice h2 i2 j2] 39)
  have U2 := Lib.hid (show ValAt w d _ y from hu2)
  have bB : Below w.heap.size w (w2.alloc (.cells #[.int .i64 k4, .int .i64 n4, .string s4, .slice h1 i1 j1, .slice h2 i2 j2] 39)) := by have h := B2.out; have s := h.size; exact (by repeat (first | (with_reducible exact Below.refl _ _) | (with_reducible exact Below.refl _ _) | (with_reducible refine Below.setCell ?_ (by first | omega | (simp; done) | (simp; omega)) _) | (with_reducible refine Below.alloc ?_ (by first | omega | (simp; done) | (simp; omega)) _) | (with_reducible refine Below.drew ?_) | (with_reducible refine below_drewN ?_ _) | (with_reducible refine Below.trans ?_ (h.mono (by first | omega | (simp; done) | (simp; omega))))))
  have BB := Lib.hid bB
  have qy := Y2.out.cells
  have lty := Y2.out.lt
  have qz := Z2.out.cells
  have ltz := Z2.out.lt
  clear hb2 HPT X1 Y1 Z1 B1 hu2 ht2 bB BA q1 lt1
  go_wp2_with fail
  refine (HSM.out _ _ BB.out U1.out).mono ?_; rintro e' w3 ⟨rfl, hb3⟩
  have B3 := Lib.hid (BB.out.trans (hb3.mono BB.out.size))
  have Y3 := Lib.hid (Y2.out.ext hb3)
  have V3 := Lib.hid (V2.out.ext hb3)
  have qy := Y3.out.cells
  have lty := Y3.out.lt
  have qv := V3.out.cells
  have ltv := V3.out.lt
  clear hb3 Y2 V2 qz ltz Z2 BB
  go_wp2_with fail
  refine (HSM.out _ _ B3.out U2.out).mono ?_; rintro e' w4 ⟨rfl, hb4⟩
  have B4 := Lib.hid (B3.out.trans (hb4.mono B3.out.size))
  clear hb4 Y3 V3
  go_wp2
  go_ret
  exact ⟨rfl, B4.out⟩
end Go.Proofs.YtmcmknndhppljaaDoor
