/-
  Layer 4: the program's measure of a value, walked.
  Layer 4: right, Check, Depth, Nodes, walked: the program's.
  Layer 4: whether two values are one, walked: the program's.
  Layer 4: equal and Same, walked: the program's.
  Layer 4: Same, walked: the program's; it is the reference's.
-/
import Derived.Test.YtmcmknndhppljaaDoorVbH
import Derived.RegionTactic
import Derived.BigRegion
namespace Go.Dav
set_option linter.unusedVariables false
set_option linter.unusedSimpArgs false
open Go Go.RowKit
theorem KeepsFrom.of_onlyV {p : Nat → Prop} {B : Nat} {W W' : World} (h : OnlyS p W W') (hp : ∀ k, p k → k < B) : KeepsFrom B W W' :=
  ⟨h.size, fun k o hk h1 _ => (h.block k (Array.getElem?_eq_some_iff.1 h1).1 (fun hpk => by have := hp k hpk; omega)).trans h1⟩
theorem KeepsFrom.of_belowV {B : Nat} {W W' : World} (h : Below W.heap.size W W') : KeepsFrom B W W' :=
  ⟨h.size, fun k o hk h1 _ => (h.block k (Array.getElem?_eq_some_iff.1 h1).1).trans h1⟩
theorem blk_ownV {β : Type} (B : Nat) (cs : List Value) (t : TypeId) : Own (fun (_ : β) W => Blk W B cs t) := fun s X Y row h hg hr =>
  (hg.block B h.lt fun e => by
    obtain ⟨o, ho, hc⟩ := hr B e.symm
    rw [show X.heap[B]? = _ from h] at ho; cases ho; cases hc).trans h
theorem putObj_blockV {W : World} {D k : Nat} {o : Obj} (hk : k < W.heap.size) (hne : k ≠ D) : (W.putObj D o).heap[k]? = W.heap[k]? := (grownBy_putObj' W D o).block k hk (by intro e; cases e; exact hne rfl)
/-- What measure has: its three boxes. -/
structure MeasAt (b ti tb : Nat) (D n : Int) (ok : Bool) (W : World) : Prop where
  d : Blk W b [.int .i64 D] ti
  n : Blk W (b + 1) [.int .i64 n] ti
  k : Blk W (b + 1 + 1) [.bool ok] tb
theorem MeasAt.ext {b ti tb : Nat} {D n : Int} {ok : Bool} {W W' : World} (h : MeasAt b ti tb D n ok W) (hb : Below W.heap.size W W') : MeasAt b ti tb D n ok W' := ⟨h.d.ext hb, h.n.ext hb, h.k.ext hb⟩
theorem measAt_own {β : Type} (b ti tb : Nat) (D n : Int) (ok : Bool) : Own (fun (_ : β) W => MeasAt b ti tb D n ok W) := fun s X Y row h hg hr =>
  ⟨blk_ownV b _ _ s X Y row h.d hg hr, blk_ownV (b + 1) _ _ s X Y row h.n hg hr, blk_ownV (b + 1 + 1) _ _ s X Y row h.k hg hr⟩
def measP (b : Nat) (k : Nat) : Prop := k = b ∨ k = b + 1 ∨ k = b + 1 + 1
theorem MeasAt.setD {b ti tb : Nat} {D n : Int} {ok : Bool} {W : World} (h : MeasAt b ti tb D n ok W) (z : Int) : MeasAt b ti tb z n ok (W.setCell ⟨b, 0, none⟩ (.int .i64 z)) := ⟨h.d.set 0 _, h.n.other (by omega) _ _, h.k.other (by omega) _ _⟩
theorem MeasAt.setN {b ti tb : Nat} {D n : Int} {ok : Bool} {W : World} (h : MeasAt b ti tb D n ok W) (z : Int) : MeasAt b ti tb D z ok (W.setCell ⟨b + 1, 0, none⟩ (.int .i64 z)) := ⟨h.d.other (by omega) _ _, h.n.set 0 _, h.k.other (by omega) _ _⟩
theorem MeasAt.setK {b ti tb : Nat} {D n : Int} {ok : Bool} {W : World} (h : MeasAt b ti tb D n ok W) (z : Bool) : MeasAt b ti tb D n z (W.setCell ⟨b + 1 + 1, 0, none⟩ (.bool z)) := ⟨h.d.other (by omega) _ _, h.n.other (by omega) _ _, h.k.set 0 _⟩
theorem blk_ne {W : World} {p q : Nat} {cs ds : List Value} {t u : TypeId} (h : Blk W p cs t) (k : Blk W q ds u) (hne : cs.length ≠ ds.length) : ¬ p = q := by
  intro e
  subst e
  have h1 : W.heap[p]? = _ := h
  rw [show W.heap[p]? = _ from k] at h1
  injection h1 with h1
  injection h1 with h1
  have := congrArg Array.size h1
  simp at this
  omega
def MeasR (d : Nat) (x : ValN d) (D n : Int) (ok : Bool) : Prop := ok = rightV d x ∧ (ok = true → D = (depthV d x : Int) ∧ n = (nodesV d x : Int))
theorem holds_eq (k : Int) : holdsB k = (decide (k = 5) || decide (k = 6)) := rfl
end Go.Dav
namespace Go.Proofs.YtmcmknndhppljaaDoor
set_option linter.unusedVariables false
set_option linter.unusedSimpArgs false
open Go.RowKit Go.Dav Go.Shelf
attribute [local go_sem] Gives ite_val ite_val_true Oper.semAt_some

theorem Tryd_holds (k : Int) (w : World) : Calls Tryd.prog 62 #[.int .i64 k] w fun e w' => e = .returned (.bool (holdsB k)) ∧ Below w.heap.size w w' := by
  rw [holds_eq]
  by_cases h5 : k = 5
  · subst h5
    rw [decide_eq_true rfl, Bool.true_or]
    go_enter Tryd.func62, Tryd.ntmps62
    go_wp2
    go_ret
    exact ⟨rfl, (by repeat (first | (with_reducible exact Below.refl _ _) | (with_reducible exact Below.refl _ _) | (with_reducible refine Below.setCell ?_ (by first | omega | (simp; done) | (simp; omega)) _) | (with_reducible refine Below.alloc ?_ (by first | omega | (simp; done) | (simp; omega)) _) | (with_reducible refine Below.drew ?_) | (with_reducible refine below_drewN ?_ _)))⟩
  · have g5 : (k == 5) = false := by rw [beq_eq_false_iff_ne]; exact h5
    rw [decide_eq_false h5, Bool.false_or]
    clear h5
    by_cases h6 : k = 6
    · subst h6
      rw [decide_eq_true rfl]
      go_enter Tryd.func62, Tryd.ntmps62
      go_wp2
      go_ret
      exact ⟨rfl, (by repeat (first | (with_reducible exact Below.refl _ _) | (with_reducible exact Below.refl _ _) | (with_reducible refine Below.setCell ?_ (by first | omega | (simp; done) | (simp; omega)) _) | (with_reducible refine Below.alloc ?_ (by first | omega | (simp; done) | (simp; omega)) _) | (with_reducible refine Below.drew ?_) | (with_reducible refine below_drewN ?_ _)))⟩
    · have g6 : (k == 6) = false := by rw [beq_eq_false_iff_ne]; exact h6
      rw [decide_eq_false h6]
      clear h6
      go_enter Tryd.func62, Tryd.ntmps62
      go_wp2
      go_ret
      exact ⟨rfl, (by repeat (first | (with_reducible exact Below.refl _ _) | (with_reducible exact Below.refl _ _) | (with_reducible refine Below.setCell ?_ (by first | omega | (simp; done) | (simp; omega)) _) | (with_reducible refine Below.alloc ?_ (by first | omega | (simp; done) | (simp; omega)) _) | (with_reducible refine Below.drew ?_) | (with_reducible refine below_drewN ?_ _)))⟩

/-- What measure answers. -/
def TrydMeas (d : Nat) (x : ValN d) (e : Ending) : Prop := ∃ (D n : Int) (ok : Bool), e = .returned (.tuple #[.int .i64 D, .int .i64 n, .bool ok]) ∧ MeasR d x D n ok

set_option maxRecDepth 100000 in
set_option maxHeartbeats 8000000 in
theorem Tryd_measure (d : Nat) (x : ValN d) (v : Value) (w : World) (hv : ValAt w d v x) (hN : GlobAt w 0 [.int .i64 0, .int .i64 0] 143) :
    Calls Tryd.prog 64 #[v] w fun e w' => TrydMeas d x e ∧ Below w.heap.size w w' := by
  obtain ⟨kind, n, s, ka, kl, kc, qa, ql, qc, rfl⟩ : ∃ kind n s ka kl kc qa ql qc, v = .agg #[.int .i64 kind, .int .i64 n, .string s, .slice ka kl kc, .slice qa ql qc] := by
    cases d with
    | zero => exact hv.elim
    | succ d =>
      obtain ⟨ka, kl, kc, qa, ql, qc, h⟩ := hv
      exact ⟨_, _, _, ka, kl, kc, qa, ql, qc, h.val⟩
  have HV := Lib.hid hv
  have HN := Lib.hid hN
  clear hv hN
  refine (callsIn_wide (n := 4)).1 ?_
  refine callsIn_of_wp_marks Tryd.func64 rfl trivial (wpIn_wide.2 ?_) rfl
  simp only [Tryd.ntmps64, List.size_toArray, List.length_cons, List.length_nil, Nat.reduceAdd, Nat.reduceSub, Array.replicate_succ, Array.replicate_zero, List.push_toArray, List.append_toArray, List.nil_append, List.cons_append]
  go_wp2_with fail
  go_step3
  go_wp2_with fail
  go_step3
  go_wp2_with fail
  refine (Tryd_vAll kind n s ka qa kl kc ql qc _).mono ?_; rintro e w4 ⟨rfl, rfl⟩
  go_wp2_with fail
  obtain ⟨L, hL⟩ : ∃ L, (((((w.alloc (.cells #[.int .i64 kind, .int .i64 n, .string s, .slice ka kl kc, .slice qa ql qc] 39)).alloc (.cells #[.int .i64 0] 3)).alloc (.cells #[.int .i64 0] 3)).alloc (.cells #[.bool true] 4)).alloc (.cells #[.int .i64 kind, .int .i64 n, .string s, .slice ka kl kc, .slice qa ql qc] 39)) = L := ⟨_, rfl⟩
  have hsz : L.heap.size = w.heap.size + 1 + 1 + 1 + 1 + 1 := by rw [← hL]; simp
  have hbL : Below w.heap.size w L := by rw [← hL]; exact (by repeat (first | (with_reducible exact Below.refl _ _) | (with_reducible exact Below.refl _ _) | (with_reducible refine Below.setCell ?_ (by first | omega | (simp; done) | (simp; omega)) _) | (with_reducible refine Below.alloc ?_ (by first | omega | (simp; done) | (simp; omega)) _) | (with_reducible refine Below.drew ?_) | (with_reducible refine below_drewN ?_ _)))
  have hb1 : Blk L (w.heap.size + 1) [.int .i64 0] 3 := by rw [← hL]; exact (((Blk.new' _ _ _ (by simp)).alloc _).alloc _).alloc _
  have hb2 : Blk L (w.heap.size + 1 + 1) [.int .i64 0] 3 := by rw [← hL]; exact ((Blk.new' _ _ _ (by simp)).alloc _).alloc _
  have hb3 : Blk L (w.heap.size + 1 + 1 + 1) [.bool true] 4 := by rw [← hL]; exact (Blk.new' _ _ _ (by simp)).alloc _
  have hb5 : Blk L (w.heap.size + 1 + 1 + 1 + 1) [.int .i64 kind, .int .i64 n, .string s, .slice ka kl kc, .slice qa ql qc] 39 := by rw [← hL]; exact Blk.new' _ [.int .i64 kind, .int .i64 n, .string s, .slice ka kl kc, .slice qa ql qc] _ (by simp)
  have hseq := Tryd_vAll1 w L (measP (w.heap.size + 1)) (w.heap.size + 1 + 1 + 1 + 1) d x kind n s ka qa kl kc ql qc (4 - 1) (fun b h hp => by unfold measP at hp; omega) (fun b h hp => by unfold measP at hp; omega) hb5 HV.out (KpV.of_below hbL)
  have HSEQ := Lib.hid hseq
  have HBL := Lib.hid hbL
  have HI0 := Lib.hid (show MeasAt (w.heap.size + 1) 3 4 0 0 true L from ⟨hb1, hb2, hb3⟩)
  rw [show _ = L from hL]
  have HSZ := Lib.hid hsz
  clear hL hsz hbL hb1 hb2 hb3 hb5 hseq
  refine wpIn_wide.1 (wpIn_rangeFunc_ownH (n := 4) rfl (by decide) (gf := 99) (lb := #[.pointer (some ⟨w.heap.size + 1 + 1 + 1 + 1, 0, none⟩)]) rfl trivial Tryd_enter99 HSEQ.out KpV.t KpV.b (Below.refl _ _) (fun _ => rfl)
    (fun pre W => (∃ D m : Int, MetIs D m (pre.map (·.1.1)) ∧ MeasAt (w.heap.size + 1) 3 4 D m true W) ∧ Below w.heap.size L W)
    (fun c pre W => (c = .exit 0 ∧ ∃ (D m D' m' : Int) (pre' : List (TopT w)) (x : TopT w), pre = pre' ++ [x] ∧ MetIs D m (pre'.map (·.1.1)) ∧ metOkW (metStepW (D, m) x.1.1) x.1.1 = false ∧ MeasAt (w.heap.size + 1) 3 4 D' m' false W) ∧ Below w.heap.size L W)
    (OwnFrom.and (Own.from (fun s A B row hs hg hr => by obtain ⟨D, m, h1, h2⟩ := hs; exact ⟨D, m, h1, measAt_own (β := Unit) _ _ _ _ _ _ () A B row h2 hg hr⟩) _) (ownFrom_below (by rw [HSZ.out]; omega) (by rw [HSZ.out]; omega)))
    (fun c => OwnFrom.and (Own.from (fun s A B row hs hg hr => by obtain ⟨hc, D, m, D', m', pre', x, e, h1, h2, h3⟩ := hs; exact ⟨hc, D, m, D', m', pre', x, e, h1, h2, measAt_own (β := Unit) _ _ _ _ _ _ () A B row h3 hg hr⟩) _) (ownFrom_below (by rw [HSZ.out]; omega) (by rw [HSZ.out]; omega)))
    ⟨⟨0, 0, MetIs.nil_, HI0.out⟩, Below.refl _ _⟩
    (fun x a' W => ∃ (bb : Nat) (k' n' : Int) (s' : ByteArray) (a1 : Option Addr) (l1 c1 : Nat) (a2 : Option Addr) (l2 c2 : Nat), x.1.2 = .agg #[.int .i64 k', .int .i64 n', .string s', .slice a1 l1 c1, .slice a2 l2 c2] ∧ a' = { tmps := #[.agg #[.int .i64 kind, .int .i64 n, .string s, .slice ka kl kc, .slice qa ql qc], .pointer (some ⟨w.heap.size, 0, none⟩), .pointer (some ⟨w.heap.size + 1, 0, none⟩), .pointer (some ⟨w.heap.size + 1 + 1, 0, none⟩), .pointer (some ⟨w.heap.size + 1 + 1 + 1, 0, none⟩), .int .i64 (lvOf x.1.1.1), .pointer (some ⟨bb, 0, none⟩), .agg #[.int .i64 kind, .int .i64 n, .string s, .slice ka kl kc, .slice qa ql qc], .func (.func 99) #[] #[.pointer (some ⟨w.heap.size + 1 + 1 + 1 + 1, 0, none⟩)], .int .i64 (lvOf x.1.1.1), .agg #[.int .i64 k', .int .i64 n', .string s', .slice a1 l1 c1, .slice a2 l2 c2], undef, undef, undef, undef, undef, undef, undef, undef, undef, undef, undef, undef, undef, undef, undef, undef, undef, undef, undef, undef, undef, undef, undef, undef], defers := [] } ∧ Blk W bb [.int .i64 k', .int .i64 n', .string s', .slice a1 l1 c1, .slice a2 l2 c2] 39)
    (fun x a' => Own.from (fun s A B row hs hg hr => by obtain ⟨bb, k', n', s', a1, l1, c1, a2, l2, c2, e, e', hv⟩ := hs; exact ⟨bb, k', n', s', a1, l1, c1, a2, l2, c2, e, e', blk_ownV (β := Unit) bb _ _ () A B row hv hg hr⟩) _)
    ?assign ?body ?done ?stop)
  case assign =>
    rintro l pre ⟨⟨⟨lev, t⟩, u⟩, a1, l1, c1, a2, l2, c2, ht⟩ W K ⟨⟨D, m, hm, hma⟩, hbw⟩ hK
    have hu := ht.val
    dsimp only at hu
    obtain ⟨k', hk'⟩ : ∃ z, t.kind = z := ⟨_, rfl⟩
    obtain ⟨n', hn'⟩ : ∃ z, t.n = z := ⟨_, rfl⟩
    obtain ⟨s', hs'⟩ : ∃ z, t.s = z := ⟨_, rfl⟩
    rw [hk', hn', hs'] at hu
    subst hu
    have HK := Lib.hid hK
    have HM := Lib.hid hm
    have HMA := Lib.hid hma
    have HBW := Lib.hid hbw
    obtain ⟨lv, hlv⟩ : ∃ z, lvOf lev = z := ⟨_, rfl⟩
    have bx : Below W.heap.size W (W.alloc (.cells #[.int .i64 k', .int .i64 n', .string s', .slice a1 l1 c1, .slice a2 l2 c2] 39)) := (by repeat (first | (with_reducible exact Below.refl _ _) | (with_reducible exact Below.refl _ _) | (with_reducible refine Below.setCell ?_ (by first | omega | (simp; done) | (simp; omega)) _) | (with_reducible refine Below.alloc ?_ (by first | omega | (simp; done) | (simp; omega)) _) | (with_reducible refine Below.drew ?_) | (with_reducible refine below_drewN ?_ _)))
    have HBX := Lib.hid bx
    dsimp only [TopT.encs] at HK ⊢
    rw [hlv] at HK ⊢
    clear hK hm hma hbw bx ht hlv hk' hn' hs'
    gi_wp2_with fail
    exact HK.out _ _ (KeepsFrom.of_belowV HBX.out) (KpV.of_below HBX.out) ⟨⟨D, m, HM.out, HMA.out.ext HBX.out⟩, HBW.out.trans (HBX.out.mono (by have := HBW.out.size; have := HSZ.out; omega))⟩ ⟨_, k', n', s', a1, l1, c1, a2, l2, c2, rfl, rfl, Blk.new _ _ _⟩
  case body =>
    rintro l pre x a' W - - ⟨⟨D, m, hm, hma⟩, hbw⟩ ⟨bb, k', n', s', a1, l1, c1, a2, l2, c2, hu, rfl, hbb⟩ -
    have htop := x.2
    obtain ⟨q, hq⟩ : ∃ q, x.1 = q := ⟨_, rfl⟩
    have HXQ := Lib.hid hq
    rw [hq] at hu htop ⊢
    clear hq
    obtain ⟨⟨lev, t⟩, u⟩ := q
    dsimp only at hu ⊢
    subst hu
    have hkd : t.kind = k' := by
      obtain ⟨_, _, _, _, _, _, h⟩ := htop
      have h := h.val
      dsimp only at h
      simp only [Value.agg.injEq, Array.mk.injEq, List.cons.injEq, Value.int.injEq, true_and, and_true] at h
      exact h.1.symm
    have hwW : Below w.heap.size w W := HBL.out.trans hbw
    obtain ⟨ba1, bl1, bc1, ba2, bl2, bc2, hvi⟩ := htop
    dsimp only at hvi
    have hN1 := HN.out.ext hwW
    have HVI := Lib.hid hvi
    have HWW := Lib.hid hwW
    have HM := Lib.hid hm
    have HBW := Lib.hid hbw
    have HBB := Lib.hid hbb
    have HN1 := Lib.hid hN1
    have HMA := Lib.hid hma
    have hm0 : 0 ≤ m := by rw [hm.many]; omega
    have hm1 := hm.few
    have hD0 := hm.lo
    have hD1 := hm.hi
    have u1 : IntKind.i64.wrap (m + 1) = m + 1 := IntWalk.i64_in _ (by omega)
    have HSTEP := Lib.hid (show metStepW (D, m) (lev, t) = (if holdsB k' = true then max D (IntKind.i64.wrap (lvOf lev + 1)) else D, m + 1) by unfold metStepW lvOf; rw [hkd])
    obtain ⟨lv, hlv⟩ : ∃ z, lvOf lev = z := ⟨_, rfl⟩
    rw [hlv] at HSTEP ⊢
    have q1 := hma.d.cells
    have q2 := hma.n.cells
    have q3 := hma.k.cells
    have q6 := hbb.cells
    have m1 := hma.d.marks
    have m2 := hma.n.marks
    have m3 := hma.k.marks
    have l1' := hma.d.lt
    have l2' := hma.n.lt
    have l3' := hma.k.lt
    have l6' := hbb.lt
    have hne1 := blk_ne hbb hma.d (by simp)
    have hne := blk_ne hbb hma.n (by simp)
    have hne3 := blk_ne hbb hma.k (by simp)
    have HC := Lib.hid (fun W' => Tryd_holds k' W')
    clear hm hbw hN1 hkd hwW hvi hlv hma hbb
    have hlb : w.heap.size < L.heap.size := by have := HSZ.out; omega
    gi_wp2_with fail
    have ho1 : OnlyS (measP (w.heap.size + 1)) W (W.setCell ⟨w.heap.size + 1 + 1, 0, none⟩ (.int .i64 (m + 1))) := (OnlyS.refl _ W).set _ 0 _ (.inr (.inl rfl))
    have hma1 := HMA.out.setN (m + 1)
    have hbb1 := HBB.out.other (q := w.heap.size + 1 + 1) hne 0 (.int .i64 (m + 1))
    obtain ⟨W1, hW1⟩ : ∃ W1, W.setCell ⟨w.heap.size + 1 + 1, 0, none⟩ (.int .i64 (m + 1)) = W1 := ⟨_, rfl⟩
    rw [hW1] at ho1 hma1 hbb1 ⊢
    have HO1 := Lib.hid ho1
    have HMA1 := Lib.hid hma1
    have HBB1 := Lib.hid hbb1
    clear q1 q2 q3 q6 m1 m2 m3 l1' l2' l3' l6' hW1 ho1 hma1 hbb1 hne
    refine ⟨trivial, ((callsIn_wide.2 (HC.out W1)).inRound l).mono ?_⟩
    rintro e W2 ⟨rfl, hb2⟩
    have HMA2 := Lib.hid (HMA1.out.ext hb2)
    have HO2 := Lib.hid (HO1.out.ext hb2)
    have hbb2 := HBB1.out.ext hb2
    have HBB2 := Lib.hid hbb2
    have q1 := HMA2.out.d.cells
    have q2 := HMA2.out.n.cells
    have q3 := HMA2.out.k.cells
    have q6 := hbb2.cells
    have m1 := HMA2.out.d.marks
    have m3 := HMA2.out.k.marks
    have l1' := HMA2.out.d.lt
    have l2' := HMA2.out.n.lt
    have l3' := HMA2.out.k.lt
    have l6' := hbb2.lt
    clear hb2 hbb2
    obtain ⟨z, hz⟩ : ∃ z, IntKind.i64.wrap (lv + 1) = z := ⟨_, rfl⟩
    have HST := HSTEP.out
    rw [hz] at HST
    cases hh : holdsB k' with
    | true =>
      rw [hh, if_pos rfl] at HST
      by_cases hDz : D < z
      · have hDz2 : ¬ z < D := by omega
        have hDz3 : ¬ z ≤ D := by omega
        have hDz4 : max D z = z := by omega
        rw [show max D z = z by omega] at HST
        have HS := Lib.hid HST
        have HMA3 := Lib.hid (HMA2.out.setD z)
        have HO3 := Lib.hid (HO2.out.set (w.heap.size + 1) 0 (.int .i64 z) (.inl rfl))
        have HBB3 := Lib.hid (HBB2.out.other hne1 0 (.int .i64 z))
        clear HST HSTEP
        by_cases g1 : m + 1 ≤ 256
        · by_cases g8 : z ≤ 8
          ·
            gi_wp2_with fail
            obtain ⟨W3, hW3⟩ : ∃ W3, W2.setCell ⟨w.heap.size + 1, 0, none⟩ (.int .i64 z) = W3 := ⟨_, rfl⟩
            try rw [hW3] at HMA3 HO3 HBB3 ⊢
            have hbw3 : Below w.heap.size w W3 := by
              try rw [← hW3]
              first | exact HWW.out.trans (HO3.out.below (by have := HWW.out.size; omega) (fun k h => by unfold measP at h; omega)) | (rw [hW3]; exact HWW.out.trans (HO3.out.below (by have := HWW.out.size; omega) (fun k h => by unfold measP at h; omega)))
            have HIS := Lib.hid (Tryd_is t _ _ _ _ _ _ _ W3 (HVI.out.ext hbw3 fun _ _ h => h) (HN.out.ext hbw3))
            clear q1 q2 q3 q6 m1 m3 l1' l2' l3' l6' hW3 hbw3
            refine ⟨trivial, ((callsIn_wide.2 HIS.out).inRound l).mono ?_⟩
            rintro e W4 ⟨rfl, hb4⟩
            have hma4 := HMA3.out.ext hb4
            have HO4 := Lib.hid (HO3.out.ext hb4)
            have HMA4 := Lib.hid hma4
            have q3 := hma4.k.cells
            have m3 := hma4.k.marks
            have l3' := hma4.k.lt
            clear hb4 hma4 HIS
            cases ha : aloneB t with
            | true =>
              have hyes := Lib.hid (show metOkW (z, m + 1) (lev, t) = true by unfold metOkW; dsimp only; rw [ha, decide_eq_true g1, decide_eq_true (show z ≤ 8 by omega)]; rfl)
              clear ha
              gi_wp2
              have ho := HO4.out.set (w.heap.size + 1 + 1 + 1) 0 (.bool true) (.inr (.inr rfl))
              refine ⟨KeepsFrom.of_onlyV ho (fun k h => by unfold measP at h; have := HSZ.out; omega), KpV.of_only ho, ⟨z, m + 1, ?_, HMA4.out.setK true⟩, HBW.out.trans (ho.below (by have := HBW.out.size; omega) (fun k h => by unfold measP at h; omega))⟩
              rw [List.map_append, List.map_cons, List.map_nil, HXQ.out]
              exact HM.out.snoc HS.out hyes.out
            | false =>
              have hno := Lib.hid (show metOkW (z, m + 1) (lev, t) = false by unfold metOkW; dsimp only; rw [ha]; simp)
              clear ha
              gi_wp2
              have ho := HO4.out.set (w.heap.size + 1 + 1 + 1) 0 (.bool false) (.inr (.inr rfl))
              refine ⟨KeepsFrom.of_onlyV ho (fun k h => by unfold measP at h; have := HSZ.out; omega), ⟨rfl, D, m, z, m + 1, pre, x, rfl, HM.out, by rw [HXQ.out, HS.out]; exact hno.out, HMA4.out.setK false⟩, HBW.out.trans (ho.below (by have := HBW.out.size; omega) (fun k h => by unfold measP at h; omega))⟩
          · have hno := Lib.hid (show metOkW (z, m + 1) (lev, t) = false by unfold metOkW; dsimp only; rw [decide_eq_false g8]; simp)
            gi_wp2_with fail
            refine ⟨trivial, ?_⟩
            gi_wp2
            have ho := HO3.out.set (w.heap.size + 1 + 1 + 1) 0 (.bool false) (.inr (.inr rfl))
            refine ⟨KeepsFrom.of_onlyV ho (fun k h => by unfold measP at h; have := HSZ.out; omega), ⟨rfl, D, m, z, m + 1, pre, x, rfl, HM.out, by rw [HXQ.out, HS.out]; exact hno.out, HMA3.out.setK false⟩, HBW.out.trans (ho.below (by have := HBW.out.size; omega) (fun k h => by unfold measP at h; omega))⟩
        · have hno := Lib.hid (show metOkW (z, m + 1) (lev, t) = false by unfold metOkW; dsimp only; rw [decide_eq_false g1]; simp)
          gi_wp2_with fail
          refine ⟨trivial, ?_⟩
          gi_wp2
          have ho := HO3.out.set (w.heap.size + 1 + 1 + 1) 0 (.bool false) (.inr (.inr rfl))
          refine ⟨KeepsFrom.of_onlyV ho (fun k h => by unfold measP at h; have := HSZ.out; omega), ⟨rfl, D, m, z, m + 1, pre, x, rfl, HM.out, by rw [HXQ.out, HS.out]; exact hno.out, HMA3.out.setK false⟩, HBW.out.trans (ho.below (by have := HBW.out.size; omega) (fun k h => by unfold measP at h; omega))⟩
      · have hDz2 : z ≤ D := by omega
        have hDz3 : (if z < D then D else z) = D := by split <;> omega
        have hDz4 : max D z = D := by omega
        rw [show max D z = D by omega] at HST
        have HS := Lib.hid HST
        have HMA3 := Lib.hid (HMA2.out.setD D)
        have HO3 := Lib.hid (HO2.out.set (w.heap.size + 1) 0 (.int .i64 D) (.inl rfl))
        have HBB3 := Lib.hid (HBB2.out.other hne1 0 (.int .i64 D))
        clear HST HSTEP
        by_cases g1 : m + 1 ≤ 256
        ·
          gi_wp2_with fail
          obtain ⟨W3, hW3⟩ : ∃ W3, W2.setCell ⟨w.heap.size + 1, 0, none⟩ (.int .i64 D) = W3 := ⟨_, rfl⟩
          try rw [hW3] at HMA3 HO3 HBB3 ⊢
          have hbw3 : Below w.heap.size w W3 := by
            try rw [← hW3]
            first | exact HWW.out.trans (HO3.out.below (by have := HWW.out.size; omega) (fun k h => by unfold measP at h; omega)) | (rw [hW3]; exact HWW.out.trans (HO3.out.below (by have := HWW.out.size; omega) (fun k h => by unfold measP at h; omega)))
          have HIS := Lib.hid (Tryd_is t _ _ _ _ _ _ _ W3 (HVI.out.ext hbw3 fun _ _ h => h) (HN.out.ext hbw3))
          clear q1 q2 q3 q6 m1 m3 l1' l2' l3' l6' hW3 hbw3
          refine ⟨trivial, ((callsIn_wide.2 HIS.out).inRound l).mono ?_⟩
          rintro e W4 ⟨rfl, hb4⟩
          have hma4 := HMA3.out.ext hb4
          have HO4 := Lib.hid (HO3.out.ext hb4)
          have HMA4 := Lib.hid hma4
          have q3 := hma4.k.cells
          have m3 := hma4.k.marks
          have l3' := hma4.k.lt
          clear hb4 hma4 HIS
          cases ha : aloneB t with
          | true =>
            have hyes := Lib.hid (show metOkW (D, m + 1) (lev, t) = true by unfold metOkW; dsimp only; rw [ha, decide_eq_true g1, decide_eq_true (show D ≤ 8 by omega)]; rfl)
            clear ha
            gi_wp2
            have ho := HO4.out.set (w.heap.size + 1 + 1 + 1) 0 (.bool true) (.inr (.inr rfl))
            refine ⟨KeepsFrom.of_onlyV ho (fun k h => by unfold measP at h; have := HSZ.out; omega), KpV.of_only ho, ⟨D, m + 1, ?_, HMA4.out.setK true⟩, HBW.out.trans (ho.below (by have := HBW.out.size; omega) (fun k h => by unfold measP at h; omega))⟩
            rw [List.map_append, List.map_cons, List.map_nil, HXQ.out]
            exact HM.out.snoc HS.out hyes.out
          | false =>
            have hno := Lib.hid (show metOkW (D, m + 1) (lev, t) = false by unfold metOkW; dsimp only; rw [ha]; simp)
            clear ha
            gi_wp2
            have ho := HO4.out.set (w.heap.size + 1 + 1 + 1) 0 (.bool false) (.inr (.inr rfl))
            refine ⟨KeepsFrom.of_onlyV ho (fun k h => by unfold measP at h; have := HSZ.out; omega), ⟨rfl, D, m, D, m + 1, pre, x, rfl, HM.out, by rw [HXQ.out, HS.out]; exact hno.out, HMA4.out.setK false⟩, HBW.out.trans (ho.below (by have := HBW.out.size; omega) (fun k h => by unfold measP at h; omega))⟩
        · have hno := Lib.hid (show metOkW (D, m + 1) (lev, t) = false by unfold metOkW; dsimp only; rw [decide_eq_false g1]; simp)
          gi_wp2_with fail
          refine ⟨trivial, ?_⟩
          gi_wp2
          have ho := HO3.out.set (w.heap.size + 1 + 1 + 1) 0 (.bool false) (.inr (.inr rfl))
          refine ⟨KeepsFrom.of_onlyV ho (fun k h => by unfold measP at h; have := HSZ.out; omega), ⟨rfl, D, m, D, m + 1, pre, x, rfl, HM.out, by rw [HXQ.out, HS.out]; exact hno.out, HMA3.out.setK false⟩, HBW.out.trans (ho.below (by have := HBW.out.size; omega) (fun k h => by unfold measP at h; omega))⟩
    | false =>
      rw [hh, if_neg (by decide)] at HST
      have HS := Lib.hid HST
      have HMA3 := HMA2
      have HO3 := HO2
      have HBB3 := HBB2
      clear HST HSTEP
      by_cases g1 : m + 1 ≤ 256
      ·
        gi_wp2_with fail
        obtain ⟨W3, hW3⟩ : ∃ W3, W2 = W3 := ⟨_, rfl⟩
        try rw [hW3] at HMA3 HO3 HBB3 ⊢
        have hbw3 : Below w.heap.size w W3 := by
          try rw [← hW3]
          first | exact HWW.out.trans (HO3.out.below (by have := HWW.out.size; omega) (fun k h => by unfold measP at h; omega)) | (rw [hW3]; exact HWW.out.trans (HO3.out.below (by have := HWW.out.size; omega) (fun k h => by unfold measP at h; omega)))
        have HIS := Lib.hid (Tryd_is t _ _ _ _ _ _ _ W3 (HVI.out.ext hbw3 fun _ _ h => h) (HN.out.ext hbw3))
        clear q1 q2 q3 q6 m1 m3 l1' l2' l3' l6' hW3 hbw3
        refine ⟨trivial, ((callsIn_wide.2 HIS.out).inRound l).mono ?_⟩
        rintro e W4 ⟨rfl, hb4⟩
        have hma4 := HMA3.out.ext hb4
        have HO4 := Lib.hid (HO3.out.ext hb4)
        have HMA4 := Lib.hid hma4
        have q3 := hma4.k.cells
        have m3 := hma4.k.marks
        have l3' := hma4.k.lt
        clear hb4 hma4 HIS
        cases ha : aloneB t with
        | true =>
          have hyes := Lib.hid (show metOkW (D, m + 1) (lev, t) = true by unfold metOkW; dsimp only; rw [ha, decide_eq_true g1, decide_eq_true (show D ≤ 8 by omega)]; rfl)
          clear ha
          gi_wp2
          have ho := HO4.out.set (w.heap.size + 1 + 1 + 1) 0 (.bool true) (.inr (.inr rfl))
          refine ⟨KeepsFrom.of_onlyV ho (fun k h => by unfold measP at h; have := HSZ.out; omega), KpV.of_only ho, ⟨D, m + 1, ?_, HMA4.out.setK true⟩, HBW.out.trans (ho.below (by have := HBW.out.size; omega) (fun k h => by unfold measP at h; omega))⟩
          rw [List.map_append, List.map_cons, List.map_nil, HXQ.out]
          exact HM.out.snoc HS.out hyes.out
        | false =>
          have hno := Lib.hid (show metOkW (D, m + 1) (lev, t) = false by unfold metOkW; dsimp only; rw [ha]; simp)
          clear ha
          gi_wp2
          have ho := HO4.out.set (w.heap.size + 1 + 1 + 1) 0 (.bool false) (.inr (.inr rfl))
          refine ⟨KeepsFrom.of_onlyV ho (fun k h => by unfold measP at h; have := HSZ.out; omega), ⟨rfl, D, m, D, m + 1, pre, x, rfl, HM.out, by rw [HXQ.out, HS.out]; exact hno.out, HMA4.out.setK false⟩, HBW.out.trans (ho.below (by have := HBW.out.size; omega) (fun k h => by unfold measP at h; omega))⟩
      · have hno := Lib.hid (show metOkW (D, m + 1) (lev, t) = false by unfold metOkW; dsimp only; rw [decide_eq_false g1]; simp)
        gi_wp2_with fail
        refine ⟨trivial, ?_⟩
        gi_wp2
        have ho := HO3.out.set (w.heap.size + 1 + 1 + 1) 0 (.bool false) (.inr (.inr rfl))
        refine ⟨KeepsFrom.of_onlyV ho (fun k h => by unfold measP at h; have := HSZ.out; omega), ⟨rfl, D, m, D, m + 1, pre, x, rfl, HM.out, by rw [HXQ.out, HS.out]; exact hno.out, HMA3.out.setK false⟩, HBW.out.trans (ho.below (by have := HBW.out.size; omega) (fun k h => by unfold measP at h; omega))⟩
  case done =>
    rintro E xs W hD hys ⟨⟨D, m, hm, hma⟩, hbw⟩ hK
    rw [hys] at hm
    have hres := met_done hm
    have HRES := Lib.hid (show MeasR d x D m true from ⟨hres.1.symm, fun _ => hres.2⟩)
    clear hm hres hys
    have HMA := Lib.hid hma
    have HBW := Lib.hid (HBL.out.trans hbw)
    have HKK := Lib.hid hK
    have q1 := hma.d.cells
    have q2 := hma.n.cells
    have q3 := hma.k.cells
    have m1 := hma.d.marks
    have m2 := hma.n.marks
    have m3 := hma.k.marks
    have l1 := hma.d.lt
    have l2 := hma.n.lt
    have l3 := hma.k.lt
    clear hma hbw hK
    go_wp2_with fail
    go_region
    obtain ⟨V, hV⟩ : ∃ V, (((W.setCell ⟨w.heap.size + 1, 0, none⟩ (.int .i64 D)).setCell ⟨w.heap.size + 1 + 1, 0, none⟩ (.int .i64 m)).setCell ⟨w.heap.size + 1 + 1 + 1, 0, none⟩ (.bool true)).drew = V := ⟨_, rfl⟩
    have hon : OnlyS (measP (w.heap.size + 1)) W V := by
      rw [← hV]
      exact ((((OnlyS.refl _ W).set _ 0 _ (.inl rfl)).set _ 0 _ (.inr (.inl rfl))).set _ 0 _ (.inr (.inr rfl))).ext ((Below.refl _ _).drew)
    have hmv : MeasAt (w.heap.size + 1) 3 4 D m true V := by
      rw [← hV]; exact (((HMA.out.setD D).setN m).setK true).ext ((Below.refl _ _).drew)
    first | rw [hV] | rw [show _ = V from hV]
    have hD2 := HSZ.out
    have hsV := hon.size
    have hDW : E < W.heap.size := (Array.getElem?_eq_some_iff.1 HKK.out).1
    have hKV : V.heap[E]? = some (.deferred (some [])) := (hon.block E hDW (by unfold measP; omega)).trans HKK.out
    have e1' : Blk (V.putObj E (.deferred none)) (w.heap.size + 1) [.int .i64 D] 3 := (putObj_blockV hmv.d.lt (by omega)).trans hmv.d
    have e2' : Blk (V.putObj E (.deferred none)) (w.heap.size + 1 + 1) [.int .i64 m] 3 := (putObj_blockV hmv.n.lt (by omega)).trans hmv.n
    have e3' : Blk (V.putObj E (.deferred none)) (w.heap.size + 1 + 1 + 1) [.bool true] 4 := (putObj_blockV hmv.k.lt (by omega)).trans hmv.k
    have c1 := e1'.cells
    have c2 := e2'.cells
    have c3 := e3'.cells
    have hbV : Below w.heap.size w V := HBW.out.trans (hon.below (by have := HBW.out.size; omega) (fun k h => by unfold measP at h; omega))
    have hbe : Below w.heap.size w (V.putObj E (.deferred none)) := hbV.trans (belowK_b (w := w) (Nat.le_refl _) V E _ _ (by omega) hKV rfl rfl)
    have HKV := Lib.hid hKV
    have HBE := Lib.hid hbe
    clear hV hon hmv e1' e2' e3' hKV hbV hbe q1 q2 q3 m1 m2 m3 l1 l2 l3
    go_wp2_with fail
    rw [Exit.noGoto_ret]
    refine ⟨by simp, .inl ⟨_, _, rfl, run_takeDeferred HKV.out, ?_⟩⟩
    refine ⟨.tuple #[.int .i64 D, .int .i64 m, .bool true], by simp [results, Tryd.results64, go_sem, c1, c2, c3], ⟨D, m, true, rfl, HRES.out⟩, HBE.out⟩
  case stop =>
    rintro E c pre W hD hpre ⟨⟨rfl, D0, m0, D, m, pre', x', rfl, hm, hno, hma⟩, hbw⟩ hK
    rw [List.map_append, List.map_cons, List.map_nil] at hpre
    have hres := met_stop hm hno hpre
    have HRES := Lib.hid (show MeasR d x D m false from ⟨hres.symm, fun h => by cases h⟩)
    clear hm hno hres hpre
    refine wpIn_wide.2 ?_
    have HMA := Lib.hid hma
    have HBW := Lib.hid (HBL.out.trans hbw)
    have HKK := Lib.hid hK
    have q1 := hma.d.cells
    have q2 := hma.n.cells
    have q3 := hma.k.cells
    have m1 := hma.d.marks
    have m2 := hma.n.marks
    have m3 := hma.k.marks
    have l1 := hma.d.lt
    have l2 := hma.n.lt
    have l3 := hma.k.lt
    clear hma hbw hK
    go_wp2_with fail
    go_region
    obtain ⟨V, hV⟩ : ∃ V, (((W.setCell ⟨w.heap.size + 1, 0, none⟩ (.int .i64 D)).setCell ⟨w.heap.size + 1 + 1, 0, none⟩ (.int .i64 m)).setCell ⟨w.heap.size + 1 + 1 + 1, 0, none⟩ (.bool false)).drew = V := ⟨_, rfl⟩
    have hon : OnlyS (measP (w.heap.size + 1)) W V := by
      rw [← hV]
      exact ((((OnlyS.refl _ W).set _ 0 _ (.inl rfl)).set _ 0 _ (.inr (.inl rfl))).set _ 0 _ (.inr (.inr rfl))).ext ((Below.refl _ _).drew)
    have hmv : MeasAt (w.heap.size + 1) 3 4 D m false V := by
      rw [← hV]; exact (((HMA.out.setD D).setN m).setK false).ext ((Below.refl _ _).drew)
    first | rw [hV] | rw [show _ = V from hV]
    have hD2 := HSZ.out
    have hsV := hon.size
    have hDW : E < W.heap.size := (Array.getElem?_eq_some_iff.1 HKK.out).1
    have hKV : V.heap[E]? = some (.deferred (some [])) := (hon.block E hDW (by unfold measP; omega)).trans HKK.out
    have e1' : Blk (V.putObj E (.deferred none)) (w.heap.size + 1) [.int .i64 D] 3 := (putObj_blockV hmv.d.lt (by omega)).trans hmv.d
    have e2' : Blk (V.putObj E (.deferred none)) (w.heap.size + 1 + 1) [.int .i64 m] 3 := (putObj_blockV hmv.n.lt (by omega)).trans hmv.n
    have e3' : Blk (V.putObj E (.deferred none)) (w.heap.size + 1 + 1 + 1) [.bool false] 4 := (putObj_blockV hmv.k.lt (by omega)).trans hmv.k
    have c1 := e1'.cells
    have c2 := e2'.cells
    have c3 := e3'.cells
    have hbV : Below w.heap.size w V := HBW.out.trans (hon.below (by have := HBW.out.size; omega) (fun k h => by unfold measP at h; omega))
    have hbe : Below w.heap.size w (V.putObj E (.deferred none)) := hbV.trans (belowK_b (w := w) (Nat.le_refl _) V E _ _ (by omega) hKV rfl rfl)
    have HKV := Lib.hid hKV
    have HBE := Lib.hid hbe
    clear hV hon hmv e1' e2' e3' hKV hbV hbe q1 q2 q3 m1 m2 m3 l1 l2 l3
    go_wp2_with fail
    rw [Exit.noGoto_ret]
    refine ⟨by simp, .inl ⟨_, _, rfl, run_takeDeferred HKV.out, ?_⟩⟩
    refine ⟨.tuple #[.int .i64 D, .int .i64 m, .bool false], by simp [results, Tryd.results64, go_sem, c1, c2, c3], ⟨D, m, false, rfl, HRES.out⟩, HBE.out⟩
end Go.Proofs.YtmcmknndhppljaaDoor

namespace Go.Dav
set_option linter.unusedVariables false
set_option linter.unusedSimpArgs false
open Go Go.RowKit
theorem ValAt.agg {w : World} {d : Nat} {x : ValN d} {v : Value} (hv : ValAt w d v x) : ∃ kind n s ka kl kc qa ql qc, v = .agg #[.int .i64 kind, .int .i64 n, .string s, .slice ka kl kc, .slice qa ql qc] := by
  cases d with
  | zero => exact hv.elim
  | succ d =>
    obtain ⟨ka, kl, kc, qa, ql, qc, h⟩ := hv
    exact ⟨_, _, _, ka, kl, kc, qa, ql, qc, h.val⟩
theorem MeasR.ok {d : Nat} {x : ValN d} {D n : Int} {ok : Bool} (h : MeasR d x D n ok) : ok = rightV d x := h.1
end Go.Dav
namespace Go.Proofs.YtmcmknndhppljaaDoor
set_option linter.unusedVariables false
set_option linter.unusedSimpArgs false
open Go.RowKit Go.Dav
attribute [local go_sem] Gives ite_val ite_val_true

set_option maxHeartbeats 1000000 in
theorem Tryd_right (d : Nat) (x : ValN d) (v : Value) (w : World) (hv : ValAt w d v x) (hN : GlobAt w 0 [.int .i64 0, .int .i64 0] 143) :
    Calls Tryd.prog 49 #[v] w fun e w' => e = .returned (.bool (rightV d x)) ∧ Below w.heap.size w w' := by
  obtain ⟨r, hr⟩ : ∃ r, rightV d x = r := ⟨_, rfl⟩
  have HR := Lib.hid hr
  rw [hr]
  clear hr
  obtain ⟨kind, n, s, ka, kl, kc, qa, ql, qc, rfl⟩ := hv.agg
  obtain ⟨W0, hW0⟩ : ∃ W0, w.alloc (.cells #[.int .i64 kind, .int .i64 n, .string s, .slice ka kl kc, .slice qa ql qc] 39) = W0 := ⟨_, rfl⟩
  have bel0 : Below w.heap.size w W0 := by rw [← hW0]; exact (by repeat (first | (with_reducible exact Below.refl _ _) | (with_reducible exact Below.refl _ _) | (with_reducible refine Below.setCell ?_ (by first | omega | (simp; done) | (simp; omega)) _) | (with_reducible refine Below.alloc ?_ (by first | omega | (simp; done) | (simp; omega)) _) | (with_reducible refine Below.drew ?_) | (with_reducible refine below_drewN ?_ _)))
  have HB0 := Lib.hid bel0
  have HC := Lib.hid (Tryd_measure d x _ W0 (ValAt.ext bel0 _ hv) (hN.ext bel0))
  have HW0 := Lib.hid hW0
  clear hv hN bel0 hW0
  go_enter Tryd.func49, Tryd.ntmps49
  go_wp2_with fail
  rw [HW0.out]
  refine HC.out.mono ?_; rintro e w1 ⟨⟨D, m, ok, rfl, hm⟩, hb1⟩
  replace hb1 := HB0.out.trans (hb1.mono HB0.out.size)
  have HM := Lib.hid hm
  have hok := hm.ok
  clear hm HC HW0 HB0
  rw [HR.out] at hok
  subst hok
  clear HM HR
  go_wp2
  go_ret
  exact ⟨rfl, (by repeat (first | (with_reducible exact Below.refl _ _) | (with_reducible exact Below.refl _ _) | (with_reducible refine Below.setCell ?_ (by first | omega | (simp; done) | (simp; omega)) _) | (with_reducible refine Below.alloc ?_ (by first | omega | (simp; done) | (simp; omega)) _) | (with_reducible refine Below.drew ?_) | (with_reducible refine below_drewN ?_ _) | (with_reducible refine Below.trans ?_ (hb1.mono (by first | omega | (simp; done) | (simp; omega))))))⟩

/-- What Check answers. -/
def valE (b : Bool) : Int := if b = true then 0 else 140
theorem Tryd_vCheck (d : Nat) (x : ValN d) (v : Value) (w : World) (hv : ValAt w d v x) (hN : GlobAt w 0 [.int .i64 0, .int .i64 0] 143) :
    Calls Tryd.prog 17 #[v] w fun e w' => e = .returned (.int .i64 (valE (rightV d x))) ∧ Below w.heap.size w w' := by
  obtain ⟨kind, n, s, ka, kl, kc, qa, ql, qc, rfl⟩ := hv.agg
  obtain ⟨r, hr⟩ : ∃ r, rightV d x = r := ⟨_, rfl⟩
  have bel0 : Below w.heap.size w (w.alloc (.cells #[.int .i64 kind, .int .i64 n, .string s, .slice ka kl kc, .slice qa ql qc] 39)) := (by repeat (first | (with_reducible exact Below.refl _ _) | (with_reducible exact Below.refl _ _) | (with_reducible refine Below.setCell ?_ (by first | omega | (simp; done) | (simp; omega)) _) | (with_reducible refine Below.alloc ?_ (by first | omega | (simp; done) | (simp; omega)) _) | (with_reducible refine Below.drew ?_) | (with_reducible refine below_drewN ?_ _)))
  have hc := Tryd_right d x _ _ (ValAt.ext bel0 _ hv) (hN.ext bel0)
  rw [hr] at hc ⊢
  have HC := Lib.hid hc
  clear hc hr hv hN bel0
  go_enter Tryd.func17, Tryd.ntmps17
  go_wp2_with fail
  refine HC.out.mono ?_; rintro e w1 ⟨rfl, hb1⟩
  clear HC
  cases r with
  | true =>
    go_wp2
    go_ret
    exact ⟨rfl, (by repeat (first | (with_reducible exact Below.refl _ _) | (with_reducible exact Below.refl _ _) | (with_reducible refine Below.setCell ?_ (by first | omega | (simp; done) | (simp; omega)) _) | (with_reducible refine Below.alloc ?_ (by first | omega | (simp; done) | (simp; omega)) _) | (with_reducible refine Below.drew ?_) | (with_reducible refine below_drewN ?_ _) | (with_reducible refine Below.trans ?_ (hb1.mono (by first | omega | (simp; done) | (simp; omega))))))⟩
  | false =>
    go_wp2
    go_ret
    exact ⟨rfl, (by repeat (first | (with_reducible exact Below.refl _ _) | (with_reducible exact Below.refl _ _) | (with_reducible refine Below.setCell ?_ (by first | omega | (simp; done) | (simp; omega)) _) | (with_reducible refine Below.alloc ?_ (by first | omega | (simp; done) | (simp; omega)) _) | (with_reducible refine Below.drew ?_) | (with_reducible refine below_drewN ?_ _) | (with_reducible refine Below.trans ?_ (hb1.mono (by first | omega | (simp; done) | (simp; omega))))))⟩

/-- What Depth and Nodes answer. -/
def ifR (b : Bool) (n : Nat) : Int := if b = true then (n : Int) else 0
set_option maxHeartbeats 1000000 in
theorem Tryd_vDepth (d : Nat) (x : ValN d) (v : Value) (w : World) (hv : ValAt w d v x) (hN : GlobAt w 0 [.int .i64 0, .int .i64 0] 143) :
    Calls Tryd.prog 38 #[v] w fun e w' => e = .returned (.int .i64 (ifR (rightV d x) (depthV d x))) ∧ Below w.heap.size w w' := by
  obtain ⟨q, hq⟩ : ∃ q, ifR (rightV d x) (depthV d x) = q := ⟨_, rfl⟩
  rw [hq]
  have HQ := Lib.hid hq
  clear hq
  obtain ⟨kind, n, s, ka, kl, kc, qa, ql, qc, rfl⟩ := hv.agg
  obtain ⟨W0, hW0⟩ : ∃ W0, w.alloc (.cells #[.int .i64 kind, .int .i64 n, .string s, .slice ka kl kc, .slice qa ql qc] 39) = W0 := ⟨_, rfl⟩
  have bel0 : Below w.heap.size w W0 := by rw [← hW0]; exact (by repeat (first | (with_reducible exact Below.refl _ _) | (with_reducible exact Below.refl _ _) | (with_reducible refine Below.setCell ?_ (by first | omega | (simp; done) | (simp; omega)) _) | (with_reducible refine Below.alloc ?_ (by first | omega | (simp; done) | (simp; omega)) _) | (with_reducible refine Below.drew ?_) | (with_reducible refine below_drewN ?_ _)))
  have HB0 := Lib.hid bel0
  have HC := Lib.hid (Tryd_measure d x _ W0 (ValAt.ext bel0 _ hv) (hN.ext bel0))
  have HW0 := Lib.hid hW0
  clear hv hN bel0 hW0
  go_enter Tryd.func38, Tryd.ntmps38
  go_wp2_with fail
  rw [HW0.out]
  refine HC.out.mono ?_; rintro e w1 ⟨⟨D, m, ok, rfl, hm⟩, hb1⟩
  replace hb1 := HB0.out.trans (hb1.mono HB0.out.size)
  have HM := Lib.hid hm
  have hok := hm.ok
  clear hm HC HW0 HB0
  cases ok with
  | true =>
    have e : q = D := by rw [← HQ.out, ← hok, (HM.out.2 rfl).1]; rfl
    clear hok HM HQ
    subst e
    go_wp2
    go_ret
    exact ⟨rfl, (by repeat (first | (with_reducible exact Below.refl _ _) | (with_reducible exact Below.refl _ _) | (with_reducible refine Below.setCell ?_ (by first | omega | (simp; done) | (simp; omega)) _) | (with_reducible refine Below.alloc ?_ (by first | omega | (simp; done) | (simp; omega)) _) | (with_reducible refine Below.drew ?_) | (with_reducible refine below_drewN ?_ _) | (with_reducible refine Below.trans ?_ (hb1.mono (by first | omega | (simp; done) | (simp; omega))))))⟩
  | false =>
    have e : q = 0 := by rw [← HQ.out, ← hok]; rfl
    clear hok HM HQ
    subst e
    go_wp2
    go_ret
    exact ⟨rfl, (by repeat (first | (with_reducible exact Below.refl _ _) | (with_reducible exact Below.refl _ _) | (with_reducible refine Below.setCell ?_ (by first | omega | (simp; done) | (simp; omega)) _) | (with_reducible refine Below.alloc ?_ (by first | omega | (simp; done) | (simp; omega)) _) | (with_reducible refine Below.drew ?_) | (with_reducible refine below_drewN ?_ _) | (with_reducible refine Below.trans ?_ (hb1.mono (by first | omega | (simp; done) | (simp; omega))))))⟩
set_option maxHeartbeats 1000000 in
theorem Tryd_vNodes (d : Nat) (x : ValN d) (v : Value) (w : World) (hv : ValAt w d v x) (hN : GlobAt w 0 [.int .i64 0, .int .i64 0] 143) :
    Calls Tryd.prog 39 #[v] w fun e w' => e = .returned (.int .i64 (ifR (rightV d x) (nodesV d x))) ∧ Below w.heap.size w w' := by
  obtain ⟨q, hq⟩ : ∃ q, ifR (rightV d x) (nodesV d x) = q := ⟨_, rfl⟩
  rw [hq]
  have HQ := Lib.hid hq
  clear hq
  obtain ⟨kind, n, s, ka, kl, kc, qa, ql, qc, rfl⟩ := hv.agg
  obtain ⟨W0, hW0⟩ : ∃ W0, w.alloc (.cells #[.int .i64 kind, .int .i64 n, .string s, .slice ka kl kc, .slice qa ql qc] 39) = W0 := ⟨_, rfl⟩
  have bel0 : Below w.heap.size w W0 := by rw [← hW0]; exact (by repeat (first | (with_reducible exact Below.refl _ _) | (with_reducible exact Below.refl _ _) | (with_reducible refine Below.setCell ?_ (by first | omega | (simp; done) | (simp; omega)) _) | (with_reducible refine Below.alloc ?_ (by first | omega | (simp; done) | (simp; omega)) _) | (with_reducible refine Below.drew ?_) | (with_reducible refine below_drewN ?_ _)))
  have HB0 := Lib.hid bel0
  have HC := Lib.hid (Tryd_measure d x _ W0 (ValAt.ext bel0 _ hv) (hN.ext bel0))
  have HW0 := Lib.hid hW0
  clear hv hN bel0 hW0
  go_enter Tryd.func39, Tryd.ntmps39
  go_wp2_with fail
  rw [HW0.out]
  refine HC.out.mono ?_; rintro e w1 ⟨⟨D, m, ok, rfl, hm⟩, hb1⟩
  replace hb1 := HB0.out.trans (hb1.mono HB0.out.size)
  have HM := Lib.hid hm
  have hok := hm.ok
  clear hm HC HW0 HB0
  cases ok with
  | true =>
    have e : q = m := by rw [← HQ.out, ← hok, (HM.out.2 rfl).2]; rfl
    clear hok HM HQ
    subst e
    go_wp2
    go_ret
    exact ⟨rfl, (by repeat (first | (with_reducible exact Below.refl _ _) | (with_reducible exact Below.refl _ _) | (with_reducible refine Below.setCell ?_ (by first | omega | (simp; done) | (simp; omega)) _) | (with_reducible refine Below.alloc ?_ (by first | omega | (simp; done) | (simp; omega)) _) | (with_reducible refine Below.drew ?_) | (with_reducible refine below_drewN ?_ _) | (with_reducible refine Below.trans ?_ (hb1.mono (by first | omega | (simp; done) | (simp; omega))))))⟩
  | false =>
    have e : q = 0 := by rw [← HQ.out, ← hok]; rfl
    clear hok HM HQ
    subst e
    go_wp2
    go_ret
    exact ⟨rfl, (by repeat (first | (with_reducible exact Below.refl _ _) | (with_reducible exact Below.refl _ _) | (with_reducible refine Below.setCell ?_ (by first | omega | (simp; done) | (simp; omega)) _) | (with_reducible refine Below.alloc ?_ (by first | omega | (simp; done) | (simp; omega)) _) | (with_reducible refine Below.drew ?_) | (with_reducible refine below_drewN ?_ _) | (with_reducible refine Below.trans ?_ (hb1.mono (by first | omega | (simp; done) | (simp; omega))))))⟩
end Go.Proofs.YtmcmknndhppljaaDoor

namespace Go.Dav
set_option linter.unusedVariables false
set_option linter.unusedSimpArgs false
open Go Go.RowKit
def sameKeys : List ByteArray → List ByteArray → Bool
  | [], [] => true
  | x :: l, y :: m => x.toList == y.toList && sameKeys l m
  | _, _ => false
theorem sameKeys_len : ∀ {l m : List ByteArray}, l.length ≠ m.length → sameKeys l m = false
  | [], [], h => absurd rfl h
  | [], _ :: _, _ => rfl
  | _ :: _, [], _ => rfl
  | x :: l, y :: m, h => by
    have := sameKeys_len (l := l) (m := m) (by simpa using h)
    unfold sameKeys; rw [this, Bool.and_false]
theorem sameKeys_drop {l m : List ByteArray} {k : Nat} {x y : ByteArray} (hx : l[k]? = some x) (hy : m[k]? = some y) : sameKeys (l.drop k) (m.drop k) = (x.toList == y.toList && sameKeys (l.drop (k + 1)) (m.drop (k + 1))) := by
  obtain ⟨h1, h2⟩ := List.getElem?_eq_some_iff.1 hx
  obtain ⟨h3, h4⟩ := List.getElem?_eq_some_iff.1 hy
  rw [List.drop_eq_getElem_cons h1, List.drop_eq_getElem_cons h3, h2, h4]
  rfl
def equalL {K J : Type} (f : K → J → Bool) : List K → List J → Bool
  | [], [] => true
  | x :: l, y :: m => f x y && equalL f l m
  | _, _ => false
theorem equalL_len {K J : Type} {f : K → J → Bool} : ∀ {l : List K} {m : List J}, l.length ≠ m.length → equalL f l m = false
  | [], [], h => absurd rfl h
  | [], _ :: _, _ => rfl
  | _ :: _, [], _ => rfl
  | x :: l, y :: m, h => by
    have := equalL_len (f := f) (l := l) (m := m) (by simpa using h)
    unfold equalL; rw [this, Bool.and_false]
theorem equalL_drop {K J : Type} {f : K → J → Bool} {l : List K} {m : List J} {k : Nat} {x : K} {y : J} (hx : l[k]? = some x) (hy : m[k]? = some y) : equalL f (l.drop k) (m.drop k) = (f x y && equalL f (l.drop (k + 1)) (m.drop (k + 1))) := by
  obtain ⟨h1, h2⟩ := List.getElem?_eq_some_iff.1 hx
  obtain ⟨h3, h4⟩ := List.getElem?_eq_some_iff.1 hy
  rw [List.drop_eq_getElem_cons h1, List.drop_eq_getElem_cons h3, h2, h4]
  rfl
def equalV : (d e : Nat) → ValN d → ValN e → Bool
  | d + 1, e + 1, x, y => decide (x.to.kind = y.to.kind) && (decide (x.to.n = y.to.n) && (x.to.s.toList == y.to.s.toList && (sameKeys x.to.keys y.to.keys && equalL (equalV d e) x.to.kids y.to.kids)))
  | 0, _, _, _ => false
  | _ + 1, 0, _, _ => false
/-- Kids, one behind the other. -/
structure KidsAt (W : World) {d : Nat} (a : Option Addr) (len cap : Nat) (L : List (ValN d)) : Prop where
  hlen : L.length = len
  hcap : len ≤ cap
  hfew : len ≤ 140737488355328
  hkid : ∀ i y, L[i]? = some y → ∃ b o u0 u1 u2 u3 u4, a = some ⟨b, o, none⟩ ∧ b < W.heap.size ∧ W.cell? ⟨b, o + i * 5, none⟩ = some u0 ∧ W.cell? ⟨b, o + i * 5 + 1, none⟩ = some u1 ∧ W.cell? ⟨b, o + i * 5 + 2, none⟩ = some u2 ∧ W.cell? ⟨b, o + i * 5 + 3, none⟩ = some u3 ∧ W.cell? ⟨b, o + i * 5 + 4, none⟩ = some u4 ∧ ValAt W d (.agg #[u0, u1, u2, u3, u4]) y
theorem ValIs.kidsAt {W : World} {d : Nat} {v : Value} {x : ValF (ValN d)} {ka qa : Option Addr} {kl kc ql qc : Nat} (h : ValIs W (ValAt W d) v x ka kl kc qa ql qc) : KidsAt W ka kl kc x.kids := ⟨h.hlen, h.hcap, h.hfew, h.hkid⟩
theorem KidsAt.ext {W W' : World} {d : Nat} {a : Option Addr} {len cap : Nat} {L : List (ValN d)} (h : KidsAt W a len cap L) (hb : Below W.heap.size W W') : KidsAt W' a len cap L :=
  ⟨h.hlen, h.hcap, h.hfew, fun i y hy => by
    obtain ⟨b, o, u0, u1, u2, u3, u4, h1, h2, c0, c1, c2, c3, c4, hv⟩ := h.hkid i y hy
    have hc := fun j => hb.cell (p := ⟨b, j, none⟩) h2
    exact ⟨b, o, u0, u1, u2, u3, u4, h1, Nat.lt_of_lt_of_le h2 hb.size, (hc _).trans c0, (hc _).trans c1, (hc _).trans c2, (hc _).trans c3, (hc _).trans c4, ValAt.ext hb d hv⟩⟩
/-- A kid: its cells. -/
theorem KidsAt.get {W : World} {d : Nat} {a : Option Addr} {len cap : Nat} {L : List (ValN d)} (h : KidsAt W a len cap L) {i : Nat} {y : ValN d} (hy : L[i]? = some y) :
    ∃ b o k n s a1 l1 c1 a2 l2 c2, a = some ⟨b, o, none⟩ ∧ b < W.heap.size ∧ W.cell? ⟨b, o + i * 5, none⟩ = some (.int .i64 k) ∧ W.cell? ⟨b, o + i * 5 + 1, none⟩ = some (.int .i64 n) ∧ W.cell? ⟨b, o + i * 5 + 2, none⟩ = some (.string s) ∧ W.cell? ⟨b, o + i * 5 + 3, none⟩ = some (.slice a1 l1 c1) ∧ W.cell? ⟨b, o + i * 5 + 4, none⟩ = some (.slice a2 l2 c2) ∧ ValAt W d (.agg #[.int .i64 k, .int .i64 n, .string s, .slice a1 l1 c1, .slice a2 l2 c2]) y := by
  obtain ⟨b, o, u0, u1, u2, u3, u4, h1, h2, c0, c1, c2, c3, c4, hv⟩ := h.hkid i y hy
  obtain ⟨k, n, s, a1, l1, q1, a2, l2, q2, hval⟩ := hv.agg
  have hv' := hv
  rw [hval] at hv'
  simp only [Value.agg.injEq, Array.mk.injEq, List.cons.injEq, and_true] at hval
  obtain ⟨rfl, rfl, rfl, rfl, rfl⟩ := hval
  exact ⟨b, o, k, n, s, a1, l1, q1, a2, l2, q2, h1, h2, c0, c1, c2, c3, c4, hv'⟩
end Go.Dav
namespace Go.Proofs.YtmcmknndhppljaaDoor
set_option linter.unusedVariables false
set_option linter.unusedSimpArgs false
open Go.RowKit Go.Dav
attribute [local go_sem] Gives ite_val ite_val_true

set_option maxRecDepth 8000 in
set_option maxHeartbeats 4000000 in
theorem Tryd_equalStrs (a b : Option Addr) (al ac bl bc : Nat) (x y : List ByteArray) (w : World) (hx : StrsAt w a al ac x) (hy : StrsAt w b bl bc y) :
    Calls Tryd.prog 73 #[.slice a al ac, .slice b bl bc] w fun e w' => e = .returned (.bool (sameKeys x y)) ∧ Below w.heap.size w w' := by
  have e1 := hx.hlen
  have e2 := hy.hlen
  have g0 := hx.hfew
  obtain ⟨r, hr⟩ : ∃ r, sameKeys x y = r := ⟨_, rfl⟩
  rw [hr]
  have HR := Lib.hid hr
  clear hr
  by_cases hl : al = bl
  · subst hl
    have H1 := Lib.hid e1; clear e1
    have H2 := Lib.hid e2; clear e2
    have HX := Lib.hid hx; clear hx
    have HY := Lib.hid hy; clear hy
    go_enter Tryd.func73, Tryd.ntmps73
    go_wp2_with fail
    go_loopw [13] (fun ix wr => ∃ k : Nat, k ≤ al ∧ ix = .int .i64 (k : Int) ∧ sameKeys (x.drop k) (y.drop k) = r ∧ Below w.heap.size w wr) (fun ix _ => al - (intOf ix).toNat)
    case atStart => exact ⟨0, Nat.zero_le _, rfl, by simpa using HR.out, Below.refl _ _⟩
    case round =>
      obtain ⟨k, hk, rfl, htk, hbel⟩ := hrel
      have HT := Lib.hid htk; clear htk
      have HB := Lib.hid hbel
      by_cases hlt : k < al
      · obtain ⟨c, hc⟩ : ∃ c, x[k]? = some c := ⟨_, List.getElem?_eq_getElem (by have := H1.out; omega)⟩
        obtain ⟨d, hd⟩ : ∃ d, y[k]? = some d := ⟨_, List.getElem?_eq_getElem (by have := H2.out; omega)⟩
        obtain ⟨b1, o1, rfl, hb1, q1⟩ := (HX.out.ext hbel).hat k c hc
        obtain ⟨b2, o2, rfl, hb2, q2⟩ := (HY.out.ext hbel).hat k d hd
        have HS := Lib.hid (sameKeys_drop hc hd)
        have hkl : (k : Int) < (al : Int) := by omega
        have HLT := Lib.hid hlt
        clear hlt hc hd hk hbel
        obtain ⟨cd, hcd⟩ : ∃ cd, (c.toList == d.toList) = cd := ⟨_, rfl⟩
        cases cd with
        | true =>
          have HT2 := Lib.hid (show sameKeys (x.drop (k + 1)) (y.drop (k + 1)) = r by have h := HT.out; rw [HS.out, hcd, Bool.true_and] at h; exact h)
          go_wp2_with fail
          go_quiet (fail)
          go_wp2_with fail
          go_roundw
          case rel => exact ⟨k + 1, HLT.out, by go_num, HT2.out, by have h := HB.out; exact (by repeat (first | (with_reducible exact Below.refl _ _) | (with_reducible exact Below.refl _ _) | (with_reducible refine Below.setCell ?_ (by first | omega | (simp; done) | (simp; omega)) _) | (with_reducible refine Below.alloc ?_ (by first | omega | (simp; done) | (simp; omega)) _) | (with_reducible refine Below.drew ?_) | (with_reducible refine below_drewN ?_ _) | (with_reducible refine Below.trans ?_ (h.mono (by first | omega | (simp; done) | (simp; omega))))))⟩
          case measure => simp [intOf]; omega
        | false =>
          have HT2 := Lib.hid (show false = r by have h := HT.out; rw [HS.out, hcd, Bool.false_and] at h; exact h)
          go_wp2_with fail
          go_quiet (fail)
          go_wp2_with fail
          go_ret
          exact ⟨ret_bool HT2.out, by have h := HB.out; exact (by repeat (first | (with_reducible exact Below.refl _ _) | (with_reducible exact Below.refl _ _) | (with_reducible refine Below.setCell ?_ (by first | omega | (simp; done) | (simp; omega)) _) | (with_reducible refine Below.alloc ?_ (by first | omega | (simp; done) | (simp; omega)) _) | (with_reducible refine Below.drew ?_) | (with_reducible refine below_drewN ?_ _) | (with_reducible refine Below.trans ?_ (h.mono (by first | omega | (simp; done) | (simp; omega))))))⟩
      · have hkl : k = al := by omega
        have hk3 : ¬ ((k : Int) < (al : Int)) := by omega
        have HV := Lib.hid (show true = r by
          have h := HT.out
          rw [List.drop_of_length_le (by have := H1.out; omega), List.drop_of_length_le (by have := H2.out; omega)] at h
          exact h)
        clear hkl hk hlt
        go_wp2
        go_ret
        exact ⟨ret_bool HV.out, HB.out⟩
  · have hne : ((al : Int) != (bl : Int)) = true := by simp; omega
    have HV := Lib.hid (show false = r by rw [← HR.out, sameKeys_len (by omega)])
    clear e1 e2 hx hy hl
    go_enter Tryd.func73, Tryd.ntmps73
    go_wp2
    go_ret
    exact ⟨ret_bool HV.out, (by repeat (first | (with_reducible exact Below.refl _ _) | (with_reducible exact Below.refl _ _) | (with_reducible refine Below.setCell ?_ (by first | omega | (simp; done) | (simp; omega)) _) | (with_reducible refine Below.alloc ?_ (by first | omega | (simp; done) | (simp; omega)) _) | (with_reducible refine Below.drew ?_) | (with_reducible refine below_drewN ?_ _)))⟩

theorem Tryd_enter50 (args : Array Value) (W : World) : (callFunc 50 args).run Tryd.prog W = .ok (Next.enter 50 args) W := by kernel_rfl

set_option maxRecDepth 8000 in
set_option maxHeartbeats 4000000 in
theorem Tryd_equalKids {dd ee : Nat} (ih : ∀ (x : ValN dd) (y : ValN ee) (v u : Value) (w : World), ValAt w dd v x → ValAt w ee u y → Calls Tryd.prog 50 #[v, u] w fun e' w' => e' = .returned (.bool (equalV dd ee x y)) ∧ Below w.heap.size w w')
    (a b : Option Addr) (al ac bl bc : Nat) (x : List (ValN dd)) (y : List (ValN ee)) (w : World) (hx : KidsAt w a al ac x) (hy : KidsAt w b bl bc y) :
    Calls Tryd.prog 74 #[.slice a al ac, .slice b bl bc, .func (.func 50) #[] #[]] w fun e w' => e = .returned (.bool (equalL (equalV dd ee) x y)) ∧ Below w.heap.size w w' := by
  have e1 := hx.hlen
  have e2 := hy.hlen
  have g0 := hx.hfew
  obtain ⟨r, hr⟩ : ∃ r, equalL (equalV dd ee) x y = r := ⟨_, rfl⟩
  rw [hr]
  have HR := Lib.hid hr
  have HIH := Lib.hid ih
  have hen := Tryd_enter50
  clear hr ih
  by_cases hl : al = bl
  · subst hl
    have H1 := Lib.hid e1; clear e1
    have H2 := Lib.hid e2; clear e2
    have HX := Lib.hid hx; clear hx
    have HY := Lib.hid hy; clear hy
    go_enter Tryd.func74, Tryd.ntmps74
    go_wp2_with fail
    go_loopw [17] (fun ix wr => ∃ k : Nat, k ≤ al ∧ ix = .int .i64 (k : Int) ∧ equalL (equalV dd ee) (x.drop k) (y.drop k) = r ∧ Below w.heap.size w wr) (fun ix _ => al - (intOf ix).toNat)
    case atStart => exact ⟨0, Nat.zero_le _, rfl, by simpa using HR.out, Below.refl _ _⟩
    case round =>
      obtain ⟨k, hk, rfl, htk, hbel⟩ := hrel
      have HT := Lib.hid htk; clear htk
      have HB := Lib.hid hbel
      by_cases hlt : k < al
      · obtain ⟨c, hc⟩ : ∃ c, x[k]? = some c := ⟨_, List.getElem?_eq_getElem (by have := H1.out; omega)⟩
        obtain ⟨d, hd⟩ : ∃ d, y[k]? = some d := ⟨_, List.getElem?_eq_getElem (by have := H2.out; omega)⟩
        obtain ⟨b1, o1, k1, n1, s1, a1, l1, c1, a2, l2, c2, rfl, hb1, q0, q1, q2, q3, q4, hv1⟩ := (HX.out.ext hbel).get hc
        obtain ⟨b2, o2, k2, n2, s2, a3, l3, c3, a4, l4, c4, rfl, hb2, p0, p1, p2, p3, p4, hv2⟩ := (HY.out.ext hbel).get hd
        have HS := Lib.hid (equalL_drop (f := equalV dd ee) hc hd)
        have hkl : (k : Int) < (al : Int) := by omega
        have HLT := Lib.hid hlt
        have bw : Below wr.heap.size wr ((wr.alloc (.cells #[.int .i64 k1, .int .i64 n1, .string s1, .slice a1 l1 c1, .slice a2 l2 c2] 39)).alloc (.cells #[.int .i64 k2, .int .i64 n2, .string s2, .slice a3 l3 c3, .slice a4 l4 c4] 39)) := (by repeat (first | (with_reducible exact Below.refl _ _) | (with_reducible exact Below.refl _ _) | (with_reducible refine Below.setCell ?_ (by first | omega | (simp; done) | (simp; omega)) _) | (with_reducible refine Below.alloc ?_ (by first | omega | (simp; done) | (simp; omega)) _) | (with_reducible refine Below.drew ?_) | (with_reducible refine below_drewN ?_ _)))
        have hcall := HIH.out c d _ _ _ (ValAt.ext bw dd hv1) (ValAt.ext bw ee hv2)
        obtain ⟨cd, hcd⟩ : ∃ cd, equalV dd ee c d = cd := ⟨_, rfl⟩
        rw [hcd] at hcall
        have HC := Lib.hid hcall
        have HBW := Lib.hid bw
        clear hlt hc hd hk hbel hv1 hv2 hcall bw
        go_wp2_with fail
        (with_reducible refine HC.out.mono ?_); rintro e w1 ⟨rfl, hb⟩
        have HB1 := Lib.hid (HB.out.trans ((HBW.out.trans (hb.mono HBW.out.size)).mono HB.out.size))
        clear hb HC q0 q1 q2 q3 q4 p0 p1 p2 p3 p4 hb1 hb2
        cases cd with
        | true =>
          have HT2 := Lib.hid (show equalL (equalV dd ee) (x.drop (k + 1)) (y.drop (k + 1)) = r by have h := HT.out; rw [HS.out, hcd, Bool.true_and] at h; exact h)
          clear hcd
          go_wp2_with fail
          go_roundw
          case rel => exact ⟨k + 1, HLT.out, by go_num, HT2.out, HB1.out⟩
          case measure => simp [intOf]; omega
        | false =>
          have HT2 := Lib.hid (show false = r by have h := HT.out; rw [HS.out, hcd, Bool.false_and] at h; exact h)
          clear hcd
          go_wp2_with fail
          go_ret
          exact ⟨ret_bool HT2.out, HB1.out⟩
      · have hkl : k = al := by omega
        have hk3 : ¬ ((k : Int) < (al : Int)) := by omega
        have HV := Lib.hid (show true = r by
          have h := HT.out
          rw [List.drop_of_length_le (by have := H1.out; omega), List.drop_of_length_le (by have := H2.out; omega)] at h
          exact h)
        clear hkl hk hlt
        go_wp2
        go_ret
        exact ⟨ret_bool HV.out, HB.out⟩
  · have hne : ((al : Int) != (bl : Int)) = true := by simp; omega
    have HV := Lib.hid (show false = r by rw [← HR.out, equalL_len (by omega)])
    clear e1 e2 hx hy hl
    go_enter Tryd.func74, Tryd.ntmps74
    go_wp2
    go_ret
    exact ⟨ret_bool HV.out, (by repeat (first | (with_reducible exact Below.refl _ _) | (with_reducible exact Below.refl _ _) | (with_reducible refine Below.setCell ?_ (by first | omega | (simp; done) | (simp; omega)) _) | (with_reducible refine Below.alloc ?_ (by first | omega | (simp; done) | (simp; omega)) _) | (with_reducible refine Below.drew ?_) | (with_reducible refine below_drewN ?_ _)))⟩
end Go.Proofs.YtmcmknndhppljaaDoor

namespace Go.Proofs.YtmcmknndhppljaaDoor
set_option linter.unusedVariables false
set_option linter.unusedSimpArgs false
open Go.RowKit Go.Dav
attribute [local go_sem] Gives ite_val ite_val_true

set_option maxRecDepth 8000 in
set_option maxHeartbeats 8000000 in
theorem Tryd_equal : ∀ (d e : Nat) (x : ValN d) (y : ValN e) (v u : Value) (w : World), ValAt w d v x → ValAt w e u y → Calls Tryd.prog 50 #[v, u] w fun e' w' => e' = .returned (.bool (equalV d e x y)) ∧ Below w.heap.size w w'
  | 0, _, _, _, _, _, _, hv, _ => hv.elim
  | _ + 1, 0, _, _, _, _, _, _, hu => hu.elim
  | d + 1, e + 1, x, y, v, u, w, hv, hu => by
    have ih := Tryd_equal d e
    obtain ⟨ka, kl, kc, qa, ql, qc, h⟩ := hv
    obtain ⟨la, ll, lc, ra, rl, rc, g⟩ := hu
    have hval := h.val
    have hval2 := g.val
    subst hval hval2
    obtain ⟨r, hr⟩ : ∃ r, equalV (d + 1) (e + 1) x y = r := ⟨_, rfl⟩
    rw [hr]
    have e0 : equalV (d + 1) (e + 1) x y = (decide (x.to.kind = y.to.kind) && (decide (x.to.n = y.to.n) && (x.to.s.toList == y.to.s.toList && (sameKeys x.to.keys y.to.keys && equalL (equalV d e) x.to.kids y.to.kids)))) := rfl
    rw [hr] at e0
    obtain ⟨kind, hkd⟩ : ∃ k, x.to.kind = k := ⟨_, rfl⟩
    obtain ⟨n, hn⟩ : ∃ k, x.to.n = k := ⟨_, rfl⟩
    obtain ⟨s, hs⟩ : ∃ k, x.to.s = k := ⟨_, rfl⟩
    obtain ⟨kind2, hkd2⟩ : ∃ k, y.to.kind = k := ⟨_, rfl⟩
    obtain ⟨n2, hn2⟩ : ∃ k, y.to.n = k := ⟨_, rfl⟩
    obtain ⟨s2, hs2⟩ : ∃ k, y.to.s = k := ⟨_, rfl⟩
    rw [hkd, hn, hs, hkd2, hn2, hs2] at e0 ⊢
    obtain ⟨ke, hke⟩ : ∃ z, sameKeys x.to.keys y.to.keys = z := ⟨_, rfl⟩
    obtain ⟨re, hre⟩ : ∃ z, equalL (equalV d e) x.to.kids y.to.kids = z := ⟨_, rfl⟩
    rw [hke, hre] at e0
    obtain ⟨W0, hW0⟩ : ∃ W0, (w.alloc (.cells #[.int .i64 kind, .int .i64 n, .string s, .slice ka kl kc, .slice qa ql qc] 39)).alloc (.cells #[.int .i64 kind2, .int .i64 n2, .string s2, .slice la ll lc, .slice ra rl rc] 39) = W0 := ⟨_, rfl⟩
    have bel0 : Below w.heap.size w W0 := by rw [← hW0]; exact (by repeat (first | (with_reducible exact Below.refl _ _) | (with_reducible exact Below.refl _ _) | (with_reducible refine Below.setCell ?_ (by first | omega | (simp; done) | (simp; omega)) _) | (with_reducible refine Below.alloc ?_ (by first | omega | (simp; done) | (simp; omega)) _) | (with_reducible refine Below.drew ?_) | (with_reducible refine below_drewN ?_ _)))
    have hb1 : Blk W0 w.heap.size [.int .i64 kind, .int .i64 n, .string s, .slice ka kl kc, .slice qa ql qc] 39 := by rw [← hW0]; exact (Blk.new _ _ _).alloc _
    have hb2 : Blk W0 (w.heap.size + 1) [.int .i64 kind2, .int .i64 n2, .string s2, .slice la ll lc, .slice ra rl rc] 39 := by rw [← hW0]; exact Blk.new' _ _ _ (by simp)
    have hk := Tryd_equalStrs qa ra ql qc rl rc x.to.keys y.to.keys W0 (h.keys.ext bel0) (g.keys.ext bel0)
    rw [hke] at hk
    have HK := Lib.hid hk
    have HC := Lib.hid (fun W1 (hb : Below W0.heap.size W0 W1) => show Calls Tryd.prog 74 #[.slice ka kl kc, .slice la ll lc, .func (.func 50) #[] #[]] W1 (fun e' w' => e' = .returned (.bool re) ∧ Below W1.heap.size W1 w') from by
      have h2 := Tryd_equalKids ih ka la kl kc ll lc x.to.kids y.to.kids W1 ((h.kidsAt.ext bel0).ext hb) ((g.kidsAt.ext bel0).ext hb)
      rw [hre] at h2; exact h2)
    have BEL := Lib.hid bel0
    have HB1 := Lib.hid hb1
    have HB2 := Lib.hid hb2
    have HW0 := Lib.hid hW0
    have HE := Lib.hid e0
    clear h g hk bel0 hb1 hb2 e0 hr hkd hn hs hkd2 hn2 hs2 hke hre ih
    by_cases h1 : kind = kind2
    · subst h1
      have t1 : (kind == kind) = true := by simp
      by_cases h2 : n = n2
      · subst h2
        have t2 : (n == n) = true := by simp
        cases h3 : (s.toList == s2.toList) with
        | true =>
          have e1 : r = (ke && re) := by rw [HE.out, h3]; simp
          have HE1 := Lib.hid e1
          clear e1 HE
          subst hW0
          go_enter Tryd.func50, Tryd.ntmps50
          go_wp2_with fail
          refine HK.out.mono ?_; rintro e1 w1 ⟨rfl, hbw⟩
          have hq1 := HB1.out.ext hbw
          have hq2 := HB2.out.ext hbw
          have q1 := hq1.cells
          have l1 := hq1.lt
          have q2 := hq2.cells
          have l2 := hq2.lt
          have hc2 := HC.out w1 hbw
          have HC2 := Lib.hid hc2
          have HBW := Lib.hid (BEL.out.trans (hbw.mono BEL.out.size))
          clear hq1 hq2 hbw hc2 HC HK
          cases ke with
          | true =>
            go_wp2_with fail
            refine HC2.out.mono ?_; rintro e1 w2 ⟨rfl, hbw2⟩
            have HBW2 := Lib.hid (HBW.out.trans (hbw2.mono HBW.out.size))
            clear hbw2
            have e2 : r = re := HE1.out
            subst e2
            go_wp2
            go_ret
            exact ⟨rfl, HBW2.out⟩
          | false =>
            have e2 : r = false := HE1.out
            subst e2
            go_wp2
            go_ret
            exact ⟨rfl, HBW.out⟩
        | false =>
          have e1 : r = false := by rw [HE.out, h3]; simp
          clear HE
          subst e1
          clear HK HC BEL HB1 HB2 HW0 hW0
          go_enter Tryd.func50, Tryd.ntmps50
          go_wp2
          go_ret
          exact ⟨rfl, (by repeat (first | (with_reducible exact Below.refl _ _) | (with_reducible exact Below.refl _ _) | (with_reducible refine Below.setCell ?_ (by first | omega | (simp; done) | (simp; omega)) _) | (with_reducible refine Below.alloc ?_ (by first | omega | (simp; done) | (simp; omega)) _) | (with_reducible refine Below.drew ?_) | (with_reducible refine below_drewN ?_ _)))⟩
      · have t2 : (n == n2) = false := by rw [beq_eq_false_iff_ne]; exact h2
        have e1 : r = false := by rw [HE.out, decide_eq_false h2]; simp
        clear HE h2
        subst e1
        clear HK HC BEL HB1 HB2 HW0 hW0
        go_enter Tryd.func50, Tryd.ntmps50
        go_wp2
        go_ret
        exact ⟨rfl, (by repeat (first | (with_reducible exact Below.refl _ _) | (with_reducible exact Below.refl _ _) | (with_reducible refine Below.setCell ?_ (by first | omega | (simp; done) | (simp; omega)) _) | (with_reducible refine Below.alloc ?_ (by first | omega | (simp; done) | (simp; omega)) _) | (with_reducible refine Below.drew ?_) | (with_reducible refine below_drewN ?_ _)))⟩
    · have t1 : (kind == kind2) = false := by rw [beq_eq_false_iff_ne]; exact h1
      have e1 : r = false := by rw [HE.out, decide_eq_false h1]; simp
      clear HE h1
      subst e1
      clear HK HC BEL HB1 HB2 HW0 hW0
      go_enter Tryd.func50, Tryd.ntmps50
      go_wp2
      go_ret
      exact ⟨rfl, (by repeat (first | (with_reducible exact Below.refl _ _) | (with_reducible exact Below.refl _ _) | (with_reducible refine Below.setCell ?_ (by first | omega | (simp; done) | (simp; omega)) _) | (with_reducible refine Below.alloc ?_ (by first | omega | (simp; done) | (simp; omega)) _) | (with_reducible refine Below.drew ?_) | (with_reducible refine below_drewN ?_ _)))⟩
end Go.Proofs.YtmcmknndhppljaaDoor

namespace Go.Dav
set_option linter.unusedVariables false
set_option linter.unusedSimpArgs false
open Go Go.RowKit
theorem oneL_keys {K J : Type} {f g : K → J → Bool} : ∀ (xs : List K) (ys : List J) (ks js : List ByteArray), ks.length = xs.length → js.length = ys.length → (∀ x ∈ xs, ∀ y ∈ ys, f x y = g x y) →
    (sameKeys ks js && equalL f xs ys) = (decide (xs.length = ys.length) && oneL g 6 xs ys ks js)
  | [], [], [], [], _, _, _ => rfl
  | [], [], _ :: _, _, h, _, _ => by simp at h
  | [], [], _, _ :: _, _, h, _ => by simp at h
  | [], y :: ys, [], [], _, h, _ => by simp at h
  | [], y :: ys, [], j :: js, _, _, _ => by simp [sameKeys]
  | [], y :: ys, _ :: _, _, h, _, _ => by simp at h
  | x :: xs, [], [], _, h, _, _ => by simp at h
  | x :: xs, [], k :: ks, [], _, _, _ => by simp [sameKeys]
  | x :: xs, [], k :: ks, _ :: _, _, h, _ => by simp at h
  | x :: xs, y :: ys, [], _, h, _, _ => by simp at h
  | x :: xs, y :: ys, k :: ks, [], _, h, _ => by simp at h
  | x :: xs, y :: ys, k :: ks, j :: js, h1, h2, hf => by
    have ih := oneL_keys (f := f) (g := g) xs ys ks js (by simpa using h1) (by simpa using h2) (fun x hx y hy => hf x (List.mem_cons_of_mem _ hx) y (List.mem_cons_of_mem _ hy))
    have e := hf x (List.mem_cons_self ..) y (List.mem_cons_self ..)
    have e2 : oneL g 6 (x :: xs) (y :: ys) (k :: ks) (j :: js) = (k.toList == j.toList && (g x y && oneL g 6 xs ys ks js)) := by simp [oneL]
    have e3 : decide ((x :: xs).length = (y :: ys).length) = decide (xs.length = ys.length) := by simp
    rw [e2, e3]
    show ((k.toList == j.toList && sameKeys ks js) && (f x y && equalL f xs ys)) = _
    rw [e]
    cases hk : (k.toList == j.toList) <;> cases hg : g x y <;> cases hs : sameKeys ks js <;> cases hq : equalL f xs ys <;> cases hd : decide (xs.length = ys.length) <;> cases ho : oneL g 6 xs ys ks js <;> simp_all
theorem oneL_bare {K J : Type} {f g : K → J → Bool} {k : Int} (hk : k ≠ 6) : ∀ (xs : List K) (ys : List J) (ks js : List ByteArray), (∀ x ∈ xs, ∀ y ∈ ys, f x y = g x y) →
    equalL f xs ys = (decide (xs.length = ys.length) && oneL g k xs ys ks js)
  | [], [], _, _, _ => by simp [equalL, oneL]
  | [], y :: ys, _, _, _ => by simp [equalL]
  | x :: xs, [], _, _, _ => by simp [equalL]
  | x :: xs, y :: ys, ks, js, hf => by
    have ih := oneL_bare (f := f) (g := g) hk xs ys ks.tail js.tail (fun x hx y hy => hf x (List.mem_cons_of_mem _ hx) y (List.mem_cons_of_mem _ hy))
    have e := hf x (List.mem_cons_self ..) y (List.mem_cons_self ..)
    have e2 : oneL g k (x :: xs) (y :: ys) ks js = (g x y && oneL g k xs ys ks.tail js.tail) := by rw [oneL_cons]; simp [hk]
    have e3 : decide ((x :: xs).length = (y :: ys).length) = decide (xs.length = ys.length) := by simp
    rw [e2, e3]
    show (f x y && equalL f xs ys) = _
    rw [e, ih]
    cases g x y <;> cases decide (xs.length = ys.length) <;> simp
theorem alone_nokeys {K : Type} {x : ValF K} (h : aloneB x = true) (hk : x.kind ≠ 6) : x.keys = [] := by
  rw [← kindB_alone] at h
  unfold kindB bareB at h
  have : x.keys.length = 0 := by
    repeat' split at h
    all_goals first | (simp only [Bool.and_eq_true, decide_eq_true_eq] at h; omega) | contradiction
  exact List.length_eq_zero_iff.1 this
theorem alone_obj {K : Type} {x : ValF K} (h : aloneB x = true) (hk : x.kind = 6) : x.kids.length = x.keys.length := by
  rw [← kindB_alone] at h
  unfold kindB objB at h
  rw [hk] at h
  rw [if_neg (by decide), if_neg (by decide), if_neg (by decide), if_neg (by decide), if_neg (by decide), if_pos rfl] at h
  simp only [Bool.and_eq_true, decide_eq_true_eq] at h
  exact h.2.2.2
theorem good_alone2 {d : Nat} {x : ValN (d + 1)} (h : goodV (d + 1) x = true) : aloneB x.to = true ∧ ∀ y ∈ x.to.kids, goodV d y = true := by
  have e : goodV (d + 1) x = (aloneB x.to && x.to.kids.all (goodV d)) := rfl
  rw [e, Bool.and_eq_true, List.all_eq_true] at h
  exact h
theorem equal_one : ∀ (d e : Nat) (x : ValN d) (y : ValN e), goodV d x = true → goodV e y = true → equalV d e x y = oneV d e x y
  | 0, _, _, _, h, _ => by cases h
  | _ + 1, 0, _, _, _, h => by cases h
  | d + 1, e + 1, x, y, hx, hy => by
    obtain ⟨ax, gx⟩ := good_alone2 hx
    obtain ⟨ay, gy⟩ := good_alone2 hy
    have hf : ∀ a ∈ x.to.kids, ∀ b ∈ y.to.kids, equalV d e a b = oneV d e a b := fun a ha b hb => equal_one d e a b (gx a ha) (gy b hb)
    show (decide (x.to.kind = y.to.kind) && (decide (x.to.n = y.to.n) && (x.to.s.toList == y.to.s.toList && (sameKeys x.to.keys y.to.keys && equalL (equalV d e) x.to.kids y.to.kids)))) = (decide (x.to.kind = y.to.kind) && (decide (x.to.n = y.to.n) && (x.to.s.toList == y.to.s.toList && (decide (x.to.kids.length = y.to.kids.length) && oneL (oneV d e) x.to.kind x.to.kids y.to.kids x.to.keys y.to.keys))))
    by_cases hk : x.to.kind = y.to.kind
    · congr 3
      by_cases h6 : x.to.kind = 6
      · rw [h6]
        exact oneL_keys _ _ _ _ (alone_obj ax h6).symm (alone_obj ay (hk ▸ h6)).symm hf
      · rw [alone_nokeys ax h6, alone_nokeys ay (fun h => h6 (hk.trans h))]
        rw [show sameKeys [] [] = true from rfl, Bool.true_and]
        exact oneL_bare h6 _ _ _ _ hf
    · rw [decide_eq_false hk, Bool.false_and, Bool.false_and]
theorem right_good {d : Nat} {x : ValN d} (h : rightV d x = true) : goodV d x = true := withinV_good _ x 8 256 (by unfold rightV at h; rw [decide_eq_true_eq] at h; omega)
end Go.Dav
namespace Go.Proofs.YtmcmknndhppljaaDoor
set_option linter.unusedVariables false
set_option linter.unusedSimpArgs false
open Go.RowKit Go.Dav
attribute [local go_sem] Gives ite_val ite_val_true

set_option maxRecDepth 8000 in
set_option maxHeartbeats 4000000 in
theorem Tryd_vSame (d e : Nat) (x : ValN d) (y : ValN e) (v u : Value) (w : World) (hv : ValAt w d v x) (hu : ValAt w e u y) (hN : GlobAt w 0 [.int .i64 0, .int .i64 0] 143) :
    Calls Tryd.prog 16 #[v, u] w fun e' w' => e' = .returned (.bool (sameV d e x y)) ∧ Below w.heap.size w w' := by
  obtain ⟨kind, n, s, ka, kl, kc, qa, ql, qc, rfl⟩ := hv.agg
  obtain ⟨kind2, n2, s2, la, ll, lc, ra, rl, rc, rfl⟩ := hu.agg
  obtain ⟨r, hr⟩ : ∃ r, sameV d e x y = r := ⟨_, rfl⟩
  rw [hr]
  have e0 : sameV d e x y = (rightV d x && (rightV e y && oneV d e x y)) := rfl
  rw [hr] at e0
  obtain ⟨W0, hW0⟩ : ∃ W0, (w.alloc (.cells #[.int .i64 kind, .int .i64 n, .string s, .slice ka kl kc, .slice qa ql qc] 39)).alloc (.cells #[.int .i64 kind2, .int .i64 n2, .string s2, .slice la ll lc, .slice ra rl rc] 39) = W0 := ⟨_, rfl⟩
  have bel0 : Below w.heap.size w W0 := by rw [← hW0]; exact (by repeat (first | (with_reducible exact Below.refl _ _) | (with_reducible exact Below.refl _ _) | (with_reducible refine Below.setCell ?_ (by first | omega | (simp; done) | (simp; omega)) _) | (with_reducible refine Below.alloc ?_ (by first | omega | (simp; done) | (simp; omega)) _) | (with_reducible refine Below.drew ?_) | (with_reducible refine below_drewN ?_ _)))
  have hb1 : Blk W0 w.heap.size [.int .i64 kind, .int .i64 n, .string s, .slice ka kl kc, .slice qa ql qc] 39 := by rw [← hW0]; exact (Blk.new _ _ _).alloc _
  have hb2 : Blk W0 (w.heap.size + 1) [.int .i64 kind2, .int .i64 n2, .string s2, .slice la ll lc, .slice ra rl rc] 39 := by rw [← hW0]; exact Blk.new' _ _ _ (by simp)
  have HRX := Lib.hid (Tryd_right d x _ W0 (ValAt.ext bel0 _ hv) (hN.ext bel0))
  have HV := Lib.hid (ValAt.ext bel0 _ hv)
  have HU := Lib.hid (ValAt.ext bel0 _ hu)
  have HN := Lib.hid (hN.ext bel0)
  have BEL := Lib.hid bel0
  have HB1 := Lib.hid hb1
  have HB2 := Lib.hid hb2
  have HE := Lib.hid e0
  subst hW0
  clear hv hu hN bel0 hb1 hb2 e0 hr
  go_enter Tryd.func16, Tryd.ntmps16
  go_wp2_with fail
  refine HRX.out.mono ?_; rintro e1 w1 ⟨rfl, hbw⟩
  have hq1 := HB1.out.ext hbw
  have hq2 := HB2.out.ext hbw
  have HQ1 := Lib.hid hq1
  have HQ2 := Lib.hid hq2
  have q1 := hq1.cells
  have l1 := hq1.lt
  have q2 := hq2.cells
  have l2 := hq2.lt
  have HW := Lib.hid hbw
  have HBW := Lib.hid (BEL.out.trans (hbw.mono BEL.out.size))
  have HRY := Lib.hid (Tryd_right e y _ w1 (ValAt.ext hbw _ HU.out) (HN.out.ext hbw))
  clear hq1 hq2 hbw HRX
  cases hrx : rightV d x with
  | false =>
    have e1 : r = false := by rw [HE.out, hrx]; rfl
    clear HE hrx
    subst e1
    go_wp2
    go_ret
    exact ⟨rfl, HBW.out⟩
  | true =>
    have HX := Lib.hid hrx
    clear hrx
    go_wp2_with fail
    refine HRY.out.mono ?_; rintro e1 w2 ⟨rfl, hbw2⟩
    have hq1 := HQ1.out.ext hbw2
    have hq2 := HQ2.out.ext hbw2
    clear q1 l1 q2 l2 HRY
    have q1 := hq1.cells
    have l1 := hq1.lt
    have q2 := hq2.cells
    have l2 := hq2.lt
    have HBW2 := Lib.hid (HBW.out.trans (hbw2.mono HBW.out.size))
    have hbx := HW.out.trans (hbw2.mono HW.out.size)
    have HEQ := Lib.hid (Tryd_equal d e x y _ _ w2 (ValAt.ext hbx _ HV.out) (ValAt.ext hbx _ HU.out))
    clear hq1 hq2 hbw2 hbx
    cases hry : rightV e y with
    | false =>
      have e1 : r = false := by rw [HE.out, hry, HX.out]; rfl
      clear HE hry
      subst e1
      go_wp2
      go_ret
      exact ⟨rfl, HBW2.out⟩
    | true =>
      have e1 : equalV d e x y = r := by rw [HE.out, hry, HX.out, equal_one d e x y (right_good HX.out) (right_good hry)]; simp
      rw [e1] at HEQ
      clear HE hry e1
      go_wp2_with fail
      refine HEQ.out.mono ?_; rintro e1 w3 ⟨rfl, hbw3⟩
      have HBW3 := Lib.hid (HBW2.out.trans (hbw3.mono HBW2.out.size))
      clear hbw3 HEQ
      go_wp2
      go_ret
      exact ⟨rfl, HBW3.out⟩
end Go.Proofs.YtmcmknndhppljaaDoor
