/-
  A region that draws its order, in the round of a loop over a function.
  Layer 10: Read, walked.
  Layer 10: Read, walked: where it reads.
  Layer 10: Read, walked: where it reads.
  Layer 10: Read, whole; what Crash does, in plain.
  Layer 11: what a record appends: in plain, and the program's marked and piece, walked.
  Layer 11: Put, walked.
  Layer 11, plain: what a record lays, and its marks.
-/
import Derived.Test.YthpdcbklaapngaaHeaderTornA
import Derived.RangeFuncNested
import Derived.RangeFuncCalls
import Derived.OrdersIn
import Derived.Test.YthpdcbklaapngaaHeaderTornC
import Derived.Deep.OwnRows
import Derived.Deep.DeepCutAuto
namespace Go.Dav
set_option linter.unusedVariables false
set_option linter.unusedSimpArgs false
open Go Go.RowKit

section
variable {P : Program} {ops : Array Oper}

/-- What stands behind, where the region runs to its end. -/
def onlyN (Q : Exit → Act → World → Prop) : Exit → Act → World → Prop
  | .normal => Q .normal
  | _ => fun _ _ => False
theorem onlyN_normal {Q : Exit → Act → World → Prop} {a : Act} {w : World} (h : Q .normal a w) : onlyN Q .normal a w := h

theorem wpAny_region_partsF {ops : List Oper} {Q : Exit → Act → World → Prop} {a : Act} {w : World} (n : Nat) (F : List Nat) (ps : Nat → Value ⊕ (Value → World → Prop)) (hB : partsFB ops.toArray n F = true)
    (hst : ∀ j R, ps j = .inr R → ∀ v W W', R v W → Below W.heap.size W W' → R v W')
    (hQ : ∀ c a d v w, Q (.panic c) (Act.put a d v) w → Q (.panic c) a w)
    (hop : ∀ vs i, i < n → stepFor P ops.toArray ps a w vs i)
    (hend : ∀ vs W, Below w.heap.size w W → allHold ps vs W n → wpList P ops.toArray Q (ops.drop n) (lay ops.toArray vs a n) W) : wpAny P .any ops.toArray Q ops.toArray.size (Array.replicate ops.toArray.size false) a { w with drawn := w.drawn + 1 } := by
  have hn : n < ops.toArray.size := by
    simp only [partsFB, Bool.and_eq_true, decide_eq_true_eq] at hB
    exact hB.1.1.1.1.2
  have he : Below w.heap.size w { w with drawn := w.drawn + 1 } := (Below.refl _ _).drew
  have hc : ∀ m, cnt (Array.replicate ops.toArray.size false) m = m := fun m => by
    induction m with
    | zero => rfl
    | succ m ih => rw [cnt, ih, getD_replicate_false]; rfl
  have := wpAny_of_midF (P := P) (ops := ops.toArray) (l := ops.drop n) (fun j => by simp [List.getElem?_drop]) (by simp) hB hst hQ hop hend n (Array.replicate ops.toArray.size false) (fun _ => undef) a { w with drawn := w.drawn + 1 }
    ⟨by simp, fun j oj _ hl => (by rw [getD_replicate_false] at hl; cases hl), fun t _ ht => getD_in (by simpa using ht) (getD_replicate_false _ _)⟩
    ⟨he, rfl, rfl, fun t => ?_, fun j _ hl => (by rw [getD_replicate_false] at hl; cases hl)⟩ (hc n)
  · rwa [show n + (ops.toArray.size - n) = ops.toArray.size by omega] at this
  · unfold slotOf
    rw [show lastW ops.toArray (fun j => (Array.replicate ops.toArray.size false).getD j false) t n = none from ?_]
    cases h : lastW ops.toArray (fun j => (Array.replicate ops.toArray.size false).getD j false) t n with
    | none => rfl
    | some j => have := (lastW_some h).2.1; rw [getD_replicate_false] at this; cases this

/-- **The orders of a region that draws its own**, walked in the order of the text; F lists the operations that may also come after the stores at its end. -/
theorem wpAny_region_seqF {l : List Oper} {Q : Exit → Act → World → Prop} {a : Act} {w : World} (F : List Nat) (ps : List Piece) (hB : partsFB l.toArray ps.length F = true)
    (h : wpParts P l.toArray w (onlyN Q) l ps [] a) : wpAny P .any l.toArray (onlyN Q) l.toArray.size (Array.replicate l.toArray.size false) a { w with drawn := w.drawn + 1 } := by
  have hn : ps.length ≤ l.length := by
    simp only [partsFB, Bool.and_eq_true, decide_eq_true_eq] at hB
    have := hB.1.1.1.1.2
    simp at this
    omega
  have hsel : Region.noSelect l.toArray = true := by
    simp only [partsFB, Bool.and_eq_true] at hB
    exact hB.1.1.1.1.1.1.1
  have spec := fun vs => parts_spec (P := P) (ops := l.toArray) (w := w) (Q := onlyN Q) (a := a) (qs := fun i => (ps[i]?).getD (.inl undef)) vs l ps 0 (fun j => by simp) (fun j p hj => by simp [hj]) hn h
  refine wpAny_region_partsF ps.length F (fun i => (ps[i]?).getD (.inl undef)) hB ?_ (fun _ _ _ _ _ h => h) ?_ ?_
  · intro j R hj
    by_cases hlt : j < ps.length
    · exact (spec (fun _ => undef)).2.1 j R (by omega) (by omega) hj
    · have : ps[j]? = none := by simp; omega
      simp [this] at hj
  · intro vs i hi
    unfold stepFor
    obtain ⟨o, ho, hs⟩ := (spec vs).1 i (by omega) (by omega)
    rw [ho]
    intro W hW hd
    have hs := hs W hW (near_of hd)
    have looks : ∀ t ∈ o.looksAt l.toArray, (lay l.toArray (fixed (fun i => (ps[i]?).getD (.inl undef)) vs) a i).tmps[t]? = (lay l.toArray vs a i).tmps[t]? := by
      intro t ht
      rw [lay_get, lay_get]
      unfold slotOf
      cases hc : lastW l.toArray (fun _ => true) t i with
      | none => rfl
      | some j =>
        obtain ⟨c1, _, c3, _⟩ := lastW_some hc
        simp only
        rw [fixed_eq (depsHold_get hd j t c1 c3 ht)]
    rw [wanted_congr looks] at hs
    simp only
    split
    · rename_i hw; rw [if_pos hw] at hs
      refine hs.of_eval (exec_congr (fun cs b => Region.noSelect_spec hsel i o cs b ho) (fun t ht => (looks t ht).symm))
    · rename_i hw; rw [if_neg hw] at hs; exact hs
  · intro vs W hW hall
    have := (spec vs).2.2 W hW (every_of (by simpa using hall))
    have e : lay l.toArray (fixed (fun i => (ps[i]?).getD (.inl undef)) vs) a ps.length = lay l.toArray vs a ps.length := act_ext (fun t => by
      rw [lay_get, lay_get]
      unfold slotOf
      cases hc : lastW l.toArray (fun _ => true) t ps.length with
      | none => rfl
      | some j =>
        obtain ⟨c1, _, _, _⟩ := lastW_some hc
        simp only
        rw [fixed_eq (allHold_get hall j c1)]) (by rw [lay_defers, lay_defers])
    rw [Nat.zero_add, e] at this
    exact this


def noDefer (o : Oper) : Bool := match o.op with
  | .defer _ => false
  | _ => true
theorem noDefer_spec {o : Oper} (h : noDefer o = true) : ∀ c, o.op ≠ .defer c := fun c e => by
  unfold noDefer at h; rw [e] at h; cases h

theorem wpOp_in {r n i : Nat} {Q : Exit → Act → World → Prop} {K K' : Act → World → Prop} {a : Act} {w : World} (hd : ∀ (i : Nat) (o : Oper), ops[i]? = some o → noDefer o = true) (hk : ∀ a w, K a w → K' a w) (h : wpOp P ops (onlyN Q) i K a w) : wpOpIn (Fence.wide.inRound r) n P ops Q i K' a w := by
  unfold wpOp at h
  unfold wpOpIn
  cases ho : ops[i]? with
  | none => rw [ho] at h; exact hk _ _ h
  | some o =>
    rw [ho] at h
    simp only at h ⊢
    by_cases hw : Region.wanted o (yielded ops a.tmps) = true
    · rw [if_pos hw] at h ⊢
      rcases h with h | ⟨_, _, _, h⟩
      · refine ⟨fun _ _ => trivial, ?_⟩
        rw [Oper.semAt_eq _ _ _ (noDefer_spec (hd i o ho))]
        unfold Oper.wp at h
        cases hx : (execOp a.eval o).run P w with
        | ok x w' =>
          rw [hx] at h
          cases x with
          | value v => exact hk _ _ h
          | skip => exact hk _ _ h
          | defer d => exact hk _ _ h
          | enter f args =>
            refine ⟨fun h => (by cases h), CallsIn.inRound r (callsIn_wide.2 (Calls.mono h fun e w'' he => ?_))⟩
            cases e with
            | returned v => exact hk _ _ he
            | panicked c => exact he.elim
            | outgrown => obtain ⟨_, _, he⟩ := he; exact he.elim
          | row row args =>
            refine ⟨fun h => (by cases h), fun c cs _ => ?_⟩
            obtain ⟨v, w'', h1, h2⟩ := h c cs
            exact ⟨v, w'', hk _ _ h1, stepsIn_wide.2 h2⟩
          | round => exact h.elim
          | _ => exact h.elim
        | halt x w' =>
          rw [hx] at h
          cases x <;> exact h.elim
      · exact h.elim
    · rw [if_neg hw] at h ⊢
      exact ⟨fun _ _ => trivial, hk _ _ h⟩

theorem wpAny_in {r n : Nat} {Q : Exit → Act → World → Prop} (hd : ∀ (i : Nat) (o : Oper), ops[i]? = some o → noDefer o = true) : ∀ (fuel : Nat) (listed : Array Bool) (a : Act) (w : World), wpAny P .any ops (onlyN Q) fuel listed a w → wpAnyIn (Fence.wide.inRound r) n P .any ops Q fuel listed a w
  | 0, listed, a, w, h => h
  | fuel + 1, listed, a, w, h => ⟨h.1, fun i hi => wpOp_in hd (wpAny_in hd fuel _) (h.2 i hi)⟩

/-- **A region that draws its order, in a round**, walked in the order of the text. -/
theorem wpIn_region_seqF {r n id : Nat} {l : List Oper} {Q : Exit → Act → World → Prop} {a : Act} {w : World} (F : List Nat) (ps : List Piece) (hm : P.follows .mixedOrders = true) (hd : l.all noDefer = true) (hB : partsFB l.toArray ps.length F = true)
    (h : wpParts P l.toArray w (onlyN Q) l ps [] a) : (Code.region id l.toArray true).wpIn (Fence.wide.inRound r) n P Q a w :=
  wpIn_region_any hm (wpAny_in (fun i o ho => List.all_eq_true.1 hd o (List.mem_of_getElem? (i := i) (by simpa using ho))) _ _ _ _ (wpAny_region_seqF F ps hB h))

end
end Go.Dav

namespace Go.Dav
set_option linter.unusedVariables false
set_option linter.unusedSimpArgs false
open Go Go.RowKit

/-- What 'Read' answers. -/
def FileD.read (F : FileD) (at_ n : Int) : List UInt8 × Int :=
  if F.right = true then (if at_ < 0 ∨ n < 0 then ([], 2) else if (F.many : Int) - at_ < n then ([], 6) else ((F.all.drop at_.toNat).take n.toNat, 0)) else ([], 200)
def GivesRead (w : World) (x : List UInt8) (err : Int) (e : Ending) (w' : World) : Prop :=
  ∃ a n c, e = .returned (.tuple #[.slice a n c, .int .i64 err]) ∧ BytesS w' (fun b => w.heap.size ≤ b) a n c x ∧ Below w.heap.size w w'

theorem wpIn_region_seqW {P : Program} {n id : Nat} {l : List Oper} {Q : Exit → Act → World → Prop} {a : Act} {w : World} (F : List Nat) (ps : List Piece) (hm : P.follows .mixedOrders = true) (hB : partsFB l.toArray ps.length F = true)
    (h : wpParts P l.toArray w (noPanic Q) l ps [] a) : (Code.region id l.toArray true).wpIn Fence.wide n P Q a w :=
  wpIn_wide.2 (wp_region_seqF F ps hm hB h)
end Go.Dav
namespace Go.Proofs.Ythpdcbklaapngaa
set_option linter.unusedVariables false
set_option linter.unusedSimpArgs false
open Go.RowKit Go.Dav Go.Shelf
attribute [local go_sem] Gives ite_val ite_val_true Oper.semAt_some

set_option maxRecDepth 100000 in
set_option maxHeartbeats 4000000 in
theorem Try_Read_no (F : FileD) (fa la : Option Addr) (fl fc ll lc : Nat) (at_ n : Int) (w : World) (hF : FileAt w fa fl fc la ll lc F) (h1 : I64' at_) (h2 : I64' n) (hne : (F.read at_ n).2 ≠ 0) :
    Calls Try.prog 39 #[.agg #[.slice fa fl fc, .slice la ll lc, .int .i64 F.fuse, .int .i64 F.fault, .bool F.off], .int .i64 at_, .int .i64 n] w (GivesRead w (F.read at_ n).1 (F.read at_ n).2) := by
  have hW : Below w.heap.size w (((w.alloc (.cells [.slice fa fl fc, .slice la ll lc, .int .i64 F.fuse, .int .i64 F.fault, .bool F.off].toArray 27)).alloc (.cells #[.int .i64 at_] 3)).alloc (.cells #[.int .i64 n] 3)) := (by repeat (first | (with_reducible exact Below.refl _ _) | (with_reducible exact Below.refl _ _) | (with_reducible refine Below.setCell ?_ (by first | omega | (simp; done) | (simp; omega)) _) | (with_reducible refine Below.alloc ?_ (by first | omega | (simp; done) | (simp; omega)) _) | (with_reducible refine Below.drew ?_) | (with_reducible refine below_drewN ?_ _)))
  have HF := Lib.hid (hF.ext hW)
  have HB1 := Lib.hid (((Blk.new w [.slice fa fl fc, .slice la ll lc, .int .i64 F.fuse, .int .i64 F.fault, .bool F.off] 27).alloc (.cells #[.int .i64 at_] 3)).alloc (.cells #[.int .i64 n] 3))
  have HB2 := Lib.hid ((Blk.new' (w.alloc (.cells [.slice fa fl fc, .slice la ll lc, .int .i64 F.fuse, .int .i64 F.fault, .bool F.off].toArray 27)) [.int .i64 at_] 3 (p := w.heap.size + 1) (by simp)).alloc (.cells #[.int .i64 n] 3))
  have HB3 := Lib.hid (Blk.new' ((w.alloc (.cells [.slice fa fl fc, .slice la ll lc, .int .i64 F.fuse, .int .i64 F.fault, .bool F.off].toArray 27)).alloc (.cells #[.int .i64 at_] 3)) [.int .i64 n] 3 (p := w.heap.size + 1 + 1) (by simp))
  have hC := Try_Check F fa la fl fc ll lc _ (hF.ext hW)
  obtain ⟨h1a, h1b⟩ := h1
  obtain ⟨h2a, h2b⟩ := h2
  have HNE := Lib.hid hne
  clear hF hW hne
  cases hr : F.right with
  | false =>
    rw [FileD.err_wrong hr] at hC
    have HV := Lib.hid (show F.read at_ n = ([], 200) by unfold FileD.read; rw [if_neg (by rw [hr]; decide)])
    have HC := Lib.hid hC
    clear hC hr
    go_enter Try.func39, Try.ntmps39
    go_wp2_with fail
    go_step3
    go_wp2_with fail
    refine HC.out.mono ?_; rintro e w1 ⟨rfl, hb1⟩
    have bel : Below w.heap.size w w1 := (by repeat (first | (with_reducible exact Below.refl _ _) | (with_reducible exact Below.refl _ _) | (with_reducible refine Below.setCell ?_ (by first | omega | (simp; done) | (simp; omega)) _) | (with_reducible refine Below.alloc ?_ (by first | omega | (simp; done) | (simp; omega)) _) | (with_reducible refine Below.drew ?_) | (with_reducible refine below_drewN ?_ _) | (with_reducible refine Below.trans ?_ (hb1.mono (by first | omega | (simp; done) | (simp; omega))))))
    clear hb1
    go_wp2_with fail
    rw [Exit.noGoto_ret]
    go_ret2
    rw [HV.out]
    exact ⟨none, 0, 0, rfl, BytesS.nil_, bel⟩
  | true =>
    rw [FileD.err_right hr] at hC
    have HC := Lib.hid hC
    have HR := Lib.hid hr
    clear hC
    go_enter Try.func39, Try.ntmps39
    go_wp2_with fail
    go_step3
    go_wp2_with fail
    refine HC.out.mono ?_; rintro e w1 ⟨rfl, hb1⟩
    have s1 := hb1.size
    simp only [World.size_alloc] at s1
    have B1 := HB1.out.ext hb1
    have B2 := HB2.out.ext hb1
    have B3 := HB3.out.ext hb1
    have q1 := B1.cells
    have q2 := B2.cells
    have q3 := B3.cells
    have m1 := B1.marks
    have m2 := B2.marks
    have m3 := B3.marks
    have l1 := B1.lt
    have l2 := B2.lt
    have l3 := B3.lt
    have bel : Below w.heap.size w w1 := (by repeat (first | (with_reducible exact Below.refl _ _) | (with_reducible exact Below.refl _ _) | (with_reducible refine Below.setCell ?_ (by first | omega | (simp; done) | (simp; omega)) _) | (with_reducible refine Below.alloc ?_ (by first | omega | (simp; done) | (simp; omega)) _) | (with_reducible refine Below.drew ?_) | (with_reducible refine below_drewN ?_ _) | (with_reducible refine Below.trans ?_ (hb1.mono (by first | omega | (simp; done) | (simp; omega))))))
    have HF1 := Lib.hid (HF.out.ext hb1)
    clear hb1 B1 B2 B3
    by_cases g1 : at_ < 0
    · have HV := Lib.hid (show F.read at_ n = ([], 2) by unfold FileD.read; rw [if_pos hr, if_pos (.inl g1)])
      clear hr
      go_wp2_with fail
      rw [Exit.noGoto_ret]
      go_ret2
      rw [HV.out]
      exact ⟨none, 0, 0, rfl, BytesS.nil_, (by repeat (first | (with_reducible exact Below.refl _ _) | (with_reducible exact Below.refl _ _) | (with_reducible refine Below.setCell ?_ (by first | omega | (simp; done) | (simp; omega)) _) | (with_reducible refine Below.alloc ?_ (by first | omega | (simp; done) | (simp; omega)) _) | (with_reducible refine Below.drew ?_) | (with_reducible refine below_drewN ?_ _) | (with_reducible refine Below.trans ?_ (bel.mono (by first | omega | (simp; done) | (simp; omega))))))⟩
    · by_cases g2 : n < 0
      · have HV := Lib.hid (show F.read at_ n = ([], 2) by unfold FileD.read; rw [if_pos hr, if_pos (.inr g2)])
        clear hr
        go_wp2_with fail
        rw [Exit.noGoto_ret]
        go_ret2
        rw [HV.out]
        exact ⟨none, 0, 0, rfl, BytesS.nil_, (by repeat (first | (with_reducible exact Below.refl _ _) | (with_reducible exact Below.refl _ _) | (with_reducible refine Below.setCell ?_ (by first | omega | (simp; done) | (simp; omega)) _) | (with_reducible refine Below.alloc ?_ (by first | omega | (simp; done) | (simp; omega)) _) | (with_reducible refine Below.drew ?_) | (with_reducible refine below_drewN ?_ _) | (with_reducible refine Below.trans ?_ (bel.mono (by first | omega | (simp; done) | (simp; omega))))))⟩
      · have hmx := (FileD.right_spec.1 hr).2.2.2.2
        obtain ⟨m, hm⟩ : ∃ m, F.many = m := ⟨_, rfl⟩
        have g3 : (m : Int) - at_ < n := by
          apply Classical.byContradiction
          intro h
          refine HNE.out ?_
          unfold FileD.read
          rw [if_pos hr, if_neg (by omega), if_neg (by rw [hm]; exact h)]
        have HV := Lib.hid (show F.read at_ n = ([], 6) by unfold FileD.read; rw [if_pos hr, if_neg (by omega), if_pos (by rw [hm]; exact g3)])
        have HM := Lib.hid hm
        rw [hm] at hmx
        have hmx' : (m : Int) ≤ 524288 := by omega
        have HL := Lib.hid (FileD.len_right hr)
        clear hr hm
        have HC6 := Lib.hid (Try_length F fa la fl fc ll lc)
        go_wp2_with fail
        refine' wp_region_seq [.inl _, .inl _, .inl _, .inl _, .inl _, .inl _] (by kernel_rfl) (by kernel_rfl) ?main1
        case main1 =>
          refine wpParts_det (by rfl) (fun W hE hN => ?_) ?_
          · have hc := fun b o h => hE.cell (p := ⟨b, o, none⟩) h
            go_simp; refine ⟨Below.refl _ _, ?_⟩; rfl
          simp only [Act.put, List.setIfInBounds_toArray, List.set_cons_zero, List.set_cons_succ]
          refine wpParts_det (by rfl) (fun W hE hN => ?_) ?_
          · have hc := fun b o h => hE.cell (p := ⟨b, o, none⟩) h
            go_simp; refine ⟨Below.refl _ _, ?_⟩; rfl
          simp only [Act.put, List.setIfInBounds_toArray, List.set_cons_zero, List.set_cons_succ]
          refine wpParts_det (by rfl) (fun W hE hN => ?_) ?_
          · go_simp; refine ⟨Below.refl _ _, ?_⟩; refine ((HL.out.trans (congrArg Nat.cast HM.out)) ▸ HC6.out _ (HF1.out.ext hE)).mono ?_; rintro e w' ⟨rfl, hb⟩; refine ⟨?_, hb⟩; rfl
          simp only [Act.put, List.setIfInBounds_toArray, List.set_cons_zero, List.set_cons_succ]
          refine wpParts_det (by rfl) (fun W hE hN => ?_) ?_
          · have hc := fun b o h => hE.cell (p := ⟨b, o, none⟩) h
            go_simp; refine ⟨Below.refl _ _, ?_⟩; rfl
          simp only [Act.put, List.setIfInBounds_toArray, List.set_cons_zero, List.set_cons_succ]
          refine wpParts_det (by rfl) (fun W hE hN => ?_) ?_
          · go_simp; refine ⟨Below.refl _ _, ?_⟩; rfl
          simp only [Act.put, List.setIfInBounds_toArray, List.set_cons_zero, List.set_cons_succ]
          refine wpParts_det (by rfl) (fun W hE hN => ?_) ?_
          · go_simp; refine ⟨Below.refl _ _, ?_⟩; rfl
          simp only [Act.put, List.setIfInBounds_toArray, List.set_cons_zero, List.set_cons_succ]
          refine wpParts_end fun W2 hE2 hG2 => ?_
          have hcW2 := fun b o h => hE2.cell (p := ⟨b, o, none⟩) h
          have hfW2 := fun b o h => hE2.frozen (p := ⟨b, o, none⟩) h
          have hw : IntKind.i64.wrap ((m : Int) - at_) = m - at_ := IntWalk.i64_in _ (by omega)
          have hd : IntKind.i64.wrap ((m : Int) - at_) < n := by rw [hw]; exact g3
          have s2 := hE2.size
          clear hw g3
          go_wp2_with fail
          try rw [Exit.noGoto_ret]
          go_ret2
          rw [HV.out]
          exact ⟨none, 0, 0, rfl, BytesS.nil_, (by repeat (first | (with_reducible exact Below.refl _ _) | (with_reducible exact Below.refl _ _) | (with_reducible refine Below.setCell ?_ (by first | omega | (simp; done) | (simp; omega)) _) | (with_reducible refine Below.alloc ?_ (by first | omega | (simp; done) | (simp; omega)) _) | (with_reducible refine Below.drew ?_) | (with_reducible refine below_drewN ?_ _) | (with_reducible refine Below.trans ?_ (hE2.mono (by first | omega | (simp; done) | (simp; omega)))) | (with_reducible refine Below.trans ?_ (bel.mono (by first | omega | (simp; done) | (simp; omega))))))⟩
end Go.Proofs.Ythpdcbklaapngaa

namespace Go.Dav
set_option linter.unusedVariables false
set_option linter.unusedSimpArgs false
open Go Go.RowKit

/-- What of a run lies between at and at + n. -/
def part {W : World} {S : Nat → Prop} (at_ n : Nat) (x : RunT W S) : List UInt8 := (x.1.l.take (at_ + n - x.1.at_.toNat)).drop (at_ - x.1.at_.toNat)
def readOf {W : World} {S : Nat → Prop} (at_ n : Nat) (xs : List (RunT W S)) : List UInt8 := (xs.map (part at_ n)).flatten
theorem readOf_snoc {W : World} {S : Nat → Prop} (at_ n : Nat) (xs : List (RunT W S)) (x : RunT W S) : readOf at_ n (xs ++ [x]) = readOf at_ n xs ++ part at_ n x := by simp [readOf]
/-- .. of rows that lie one behind the other from o on. -/
def rowsOf (at_ n : Nat) : Nat → List (List UInt8) → List UInt8
  | _, [] => []
  | o, l :: ls => (l.take (at_ + n - o)).drop (at_ - o) ++ rowsOf at_ n (o + l.length) ls
theorem rowsOf_eq (at_ n : Nat) : ∀ (ls : List (List UInt8)) (o : Nat), rowsOf at_ n o ls = (ls.flatten.take (at_ + n - o)).drop (at_ - o)
  | [], o => by simp [rowsOf]
  | l :: ls, o => by
    rw [rowsOf, rowsOf_eq at_ n ls, List.flatten_cons, List.take_append, List.drop_append, List.length_take]
    congr 1
    by_cases h : l.length ≤ at_ + n - o
    · rw [Nat.min_eq_right h, Nat.sub_sub, Nat.sub_sub]
    · have h1 : at_ + n - o - l.length = 0 := by omega
      have h2 : at_ + n - (o + l.length) = 0 := by omega
      rw [h1, h2]; simp
theorem readOf_rows {W : World} {S : Nat → Prop} (at_ n : Nat) : ∀ (xs : List (RunT W S)) (o : Nat), (∀ (j : Nat) x, xs[j]? = some x → x.1.at_ = ((o + ((xs.take j).map fun y => y.1.l.length).sum : Nat) : Int)) → readOf at_ n xs = rowsOf at_ n o (xs.map fun y => y.1.l)
  | [], o, _ => rfl
  | x :: xs, o, h => by
    have h0 := h 0 x rfl
    have ih := readOf_rows at_ n xs (o + x.1.l.length) fun j y hy => by
      have := h (j + 1) y (by simpa using hy)
      rw [this, List.take_succ_cons, List.map_cons, List.sum_cons]
      omega
    have e : readOf at_ n (x :: xs) = part at_ n x ++ readOf at_ n xs := by simp [readOf]
    have e2 : x.1.at_.toNat = o := by rw [h0]; simp
    rw [e, ih, List.map_cons, rowsOf]
    unfold part
    rw [e2]
theorem runAt_sum (F : FileD) (j : Nat) : runAt F j = (((F.firm :: F.loose).take j).map List.length).sum := by cases j <;> simp [runAt, sumTo]
theorem RunsTo.at_ {W : World} {S : Nat → Prop} {F : FileD} {k : Nat} {xs : List (RunT W S)} (h : RunsTo F k xs) : ∀ (j : Nat) x, xs[j]? = some x → x.1.at_ = ((0 + ((xs.take j).map fun y => y.1.l.length).sum : Nat) : Int) := fun j x hj => by
  have hjl := (List.getElem?_eq_some_iff.1 hj).1
  have hlen : xs.length = min k (F.loose.length + 1) := by
    have h1 := congrArg List.length h.1
    rw [List.length_map, List.length_take, List.length_cons] at h1
    exact h1
  rw [h.2 j x hj, runAt_sum]
  have e : (F.firm :: F.loose).take j = (xs.take j).map fun y => y.1.l := by
    rw [List.map_take, h.1, List.take_take, Nat.min_eq_left (by omega)]
  rw [e, List.map_map]
  simp [Function.comp_def]
theorem readOf_all {W : World} {S : Nat → Prop} {F : FileD} {xs : List (RunT W S)} (at_ n : Nat) (h : RunsTo F (F.loose.length + 1) xs) : readOf at_ n xs = (F.all.drop at_).take n := by
  rw [readOf_rows at_ n xs 0 h.at_, rowsOf_eq, h.1, List.take_of_length_le (l := F.firm :: F.loose) (i := F.loose.length + 1) (by simp)]
  simp [FileD.all, List.drop_take]
theorem readOf_some {W : World} {S : Nat → Prop} {F : FileD} {k : Nat} {xs : List (RunT W S)} {x : RunT W S} (at_ n : Nat) (h : RunsTo F k (xs ++ [x])) (hx : ((at_ + n : Nat) : Int) ≤ x.1.at_) : readOf at_ n xs = (F.all.drop at_).take n := by
  have h1 : RunsTo F xs.length xs := by
    refine ⟨?_, fun j y hy => h.2 j y (by rw [List.getElem?_append_left (List.getElem?_eq_some_iff.1 hy).1]; exact hy)⟩
    have h2 := congrArg (List.take xs.length) h.1
    have hlen : xs.length + 1 = min k (F.loose.length + 1) := by
      have h1 := congrArg List.length h.1
      rw [List.length_map, List.length_take, List.length_cons, List.length_append] at h1
      exact h1
    rw [List.map_append, List.take_append_of_le_length (by simp), List.take_of_length_le (by simp), List.take_take, Nat.min_eq_left (by omega)] at h2
    exact h2
  have h3 := h.2 xs.length x (by simp)
  rw [h3, runAt_sum] at hx
  rw [readOf_rows at_ n xs 0 h1.at_, rowsOf_eq, h1.1]
  have e : F.all = ((F.firm :: F.loose).take xs.length).flatten ++ ((F.firm :: F.loose).drop xs.length).flatten := by
    rw [← List.flatten_append, List.take_append_drop]; rfl
  rw [e, List.take_drop, List.take_append_of_le_length (by rw [List.length_flatten]; omega)]
  simp
theorem CellsS.part {W : World} {S : Nat → Prop} {b o n lo hi : Nat} {xs : List Value} (h : CellsS W S (some ⟨b, o, none⟩) n xs) (h1 : lo ≤ hi) (h2 : hi ≤ n) : CellsS W S (some ⟨b, o + lo, none⟩) (hi - lo) ((xs.take hi).drop lo) :=
  ⟨by rw [List.length_drop, List.length_take, h.len]; omega, fun k v hk => by
    rw [List.getElem?_drop] at hk
    have hlt := (List.getElem?_eq_some_iff.1 hk).1
    rw [List.length_take] at hlt
    rw [List.getElem?_take_of_lt (by omega)] at hk
    obtain ⟨b', o', g1, g2, g3, g4⟩ := h.at_ _ v hk
    cases g1
    exact ⟨b, o + lo, rfl, g2, g3, by rw [Nat.add_assoc]; exact g4⟩⟩
end Go.Dav

namespace Go.Dav
set_option linter.unusedVariables false
set_option linter.unusedSimpArgs false
open Go Go.RowKit
theorem keeps_below {W W' : World} (h : Below W.heap.size W W') : KeepsOthers W W' := ⟨h.size, fun k o hk _ => (h.block k (Array.getElem?_eq_some_iff.1 hk).1).trans hk⟩
theorem part_le {W : World} {S : Nat → Prop} (at_ n : Nat) (x : RunT W S) : (Dav.part at_ n x).length ≤ 524288 := by
  have h2 := x.2.1.at_.hlen
  have h3 := x.2.2.1
  unfold Dav.part
  rw [List.length_drop, List.length_take]
  omega
theorem readOf_le {W : World} {S : Nat → Prop} (at_ n : Nat) (xs : List (RunT W S)) : (readOf at_ n xs).length ≤ xs.length * 524288 := by
  induction xs with
  | nil => simp [readOf]
  | cons x xs ih =>
    have h1 : readOf at_ n (x :: xs) = Dav.part at_ n x ++ readOf at_ n xs := by simp [readOf]
    have h2 := part_le at_ n x
    rw [h1, List.length_append, List.length_cons]
    omega
theorem u8s_part (ls : List UInt8) (lo hi : Nat) : ((u8s ls).take hi).drop lo = u8s ((ls.take hi).drop lo) := by simp [u8s, List.map_take, List.map_drop]
end Go.Dav
namespace Go.Proofs.Ythpdcbklaapngaa
set_option linter.unusedVariables false
set_option linter.unusedSimpArgs false
open Go.RowKit Go.Dav Go.Shelf
attribute [local go_sem] Gives ite_val ite_val_true Oper.semAt_some

set_option maxRecDepth 100000 in
set_option maxHeartbeats 8000000 in
theorem Try_Read_yes (F : FileD) (fa la : Option Addr) (fl fc ll lc : Nat) (at_ n : Nat) (w : World) (S : Nat → Prop) (hF : FileS w S fa fl fc la ll lc F) (hS : ∀ b, S b → b < w.heap.size) (hr : F.right = true) (hle : at_ + n ≤ F.many) :
    Calls Try.prog 39 #[.agg #[.slice fa fl fc, .slice la ll lc, .int .i64 F.fuse, .int .i64 F.fault, .bool F.off], .int .i64 (at_ : Int), .int .i64 (n : Int)] w (GivesRead w ((F.all.drop at_).take n) 0) := by
  have hW : Below w.heap.size w (((w.alloc (.cells [.slice fa fl fc, .slice la ll lc, .int .i64 F.fuse, .int .i64 F.fault, .bool F.off].toArray 27)).alloc (.cells #[.int .i64 (at_ : Int)] 3)).alloc (.cells #[.int .i64 (n : Int)] 3)) := (by repeat (first | (with_reducible exact Below.refl _ _) | (with_reducible exact Below.refl _ _) | (with_reducible refine Below.setCell ?_ (by first | omega | (simp; done) | (simp; omega)) _) | (with_reducible refine Below.alloc ?_ (by first | omega | (simp; done) | (simp; omega)) _) | (with_reducible refine Below.drew ?_) | (with_reducible refine below_drewN ?_ _)))
  have HF := Lib.hid (hF.ext hW)
  have HB1 := Lib.hid (((Blk.new w [.slice fa fl fc, .slice la ll lc, .int .i64 F.fuse, .int .i64 F.fault, .bool F.off] 27).alloc (.cells #[.int .i64 (at_ : Int)] 3)).alloc (.cells #[.int .i64 (n : Int)] 3))
  have HB2 := Lib.hid ((Blk.new' (w.alloc (.cells [.slice fa fl fc, .slice la ll lc, .int .i64 F.fuse, .int .i64 F.fault, .bool F.off].toArray 27)) [.int .i64 (at_ : Int)] 3 (p := w.heap.size + 1) (by simp)).alloc (.cells #[.int .i64 (n : Int)] 3))
  have HB3 := Lib.hid (Blk.new' ((w.alloc (.cells [.slice fa fl fc, .slice la ll lc, .int .i64 F.fuse, .int .i64 F.fault, .bool F.off].toArray 27)).alloc (.cells #[.int .i64 (at_ : Int)] 3)) [.int .i64 (n : Int)] 3 (p := w.heap.size + 1 + 1) (by simp))
  have hC := Try_Check F fa la fl fc ll lc _ (hF.ext hW).at_
  rw [FileD.err_right hr] at hC
  have HC := Lib.hid hC
  have HR := Lib.hid hr
  have HSS := Lib.hid hS
  have hmx := (FileD.right_spec.1 hr).2.2.2.2
  obtain ⟨m, hm⟩ : ∃ m, F.many = m := ⟨_, rfl⟩
  have HM := Lib.hid hm
  rw [hm] at hmx hle
  have hmx' : (m : Int) ≤ 524288 := by omega
  have hle' : (at_ : Int) + (n : Int) ≤ (m : Int) := by omega
  have HL := Lib.hid (FileD.len_right hr)
  have HC6 := Lib.hid (Try_length F fa la fl fc ll lc)
  obtain ⟨i0, hi, hz0, hz1, hz2⟩ := info_parts Try_infoU8
  have HI := Lib.hid (And.intro hi (And.intro hz0 (And.intro hz1 hz2)))
  have g1 : ¬ (at_ : Int) < 0 := by omega
  have g2 : ¬ (n : Int) < 0 := by omega
  clear hF hW hC hr hm hS hi hz0 hz1 hz2
  refine (callsIn_wide (n := 4)).1 ?_
  refine callsIn_of_wp_marks Try.func39 rfl trivial (wpIn_wide.2 ?_) rfl
  simp only [Try.ntmps39, List.size_toArray, List.length_cons, List.length_nil, Nat.reduceAdd, Nat.reduceSub, Array.replicate_succ, Array.replicate_zero, List.push_toArray, List.append_toArray, List.nil_append, List.cons_append]
  go_wp2_with fail
  go_step3
  go_wp2_with fail
  refine HC.out.mono ?_; rintro e w1 ⟨rfl, hb1⟩
  have s1 := hb1.size
  simp only [World.size_alloc] at s1
  have B1 := HB1.out.ext hb1
  have B2 := HB2.out.ext hb1
  have B3 := HB3.out.ext hb1
  have q1 := B1.cells
  have q2 := B2.cells
  have q3 := B3.cells
  have m1 := B1.marks
  have m2 := B2.marks
  have m3 := B3.marks
  have l1 := B1.lt
  have l2 := B2.lt
  have l3 := B3.lt
  have bel : Below w.heap.size w w1 := (by repeat (first | (with_reducible exact Below.refl _ _) | (with_reducible exact Below.refl _ _) | (with_reducible refine Below.setCell ?_ (by first | omega | (simp; done) | (simp; omega)) _) | (with_reducible refine Below.alloc ?_ (by first | omega | (simp; done) | (simp; omega)) _) | (with_reducible refine Below.drew ?_) | (with_reducible refine below_drewN ?_ _) | (with_reducible refine Below.trans ?_ (hb1.mono (by first | omega | (simp; done) | (simp; omega))))))
  have HF1 := Lib.hid (HF.out.ext hb1)
  have HB1' := Lib.hid B1
  have HB2' := Lib.hid B2
  have HB3' := Lib.hid B3
  clear hb1 B1 B2 B3 HB1 HB2 HB3
  go_wp2_with fail
  refine' wp_region_seq [.inl _, .inl _, .inl _, .inl _, .inl _, .inl _] (by kernel_rfl) (by kernel_rfl) ?main1
  case main1 =>
    refine wpParts_det (by rfl) (fun W hE hN => ?_) ?_
    · have hc := fun b o h => hE.cell (p := ⟨b, o, none⟩) h
      go_simp; refine ⟨Below.refl _ _, ?_⟩; rfl
    simp only [Act.put, List.setIfInBounds_toArray, List.set_cons_zero, List.set_cons_succ]
    refine wpParts_det (by rfl) (fun W hE hN => ?_) ?_
    · have hc := fun b o h => hE.cell (p := ⟨b, o, none⟩) h
      go_simp; refine ⟨Below.refl _ _, ?_⟩; rfl
    simp only [Act.put, List.setIfInBounds_toArray, List.set_cons_zero, List.set_cons_succ]
    refine wpParts_det (by rfl) (fun W hE hN => ?_) ?_
    · go_simp; refine ⟨Below.refl _ _, ?_⟩; refine ((HL.out.trans (congrArg Nat.cast HM.out)) ▸ HC6.out _ (HF1.out.at_.ext hE)).mono ?_; rintro e w' ⟨rfl, hb⟩; refine ⟨?_, hb⟩; rfl
    simp only [Act.put, List.setIfInBounds_toArray, List.set_cons_zero, List.set_cons_succ]
    refine wpParts_det (by rfl) (fun W hE hN => ?_) ?_
    · have hc := fun b o h => hE.cell (p := ⟨b, o, none⟩) h
      go_simp; refine ⟨Below.refl _ _, ?_⟩; rfl
    simp only [Act.put, List.setIfInBounds_toArray, List.set_cons_zero, List.set_cons_succ]
    refine wpParts_det (by rfl) (fun W hE hN => ?_) ?_
    · go_simp; refine ⟨Below.refl _ _, ?_⟩; rfl
    simp only [Act.put, List.setIfInBounds_toArray, List.set_cons_zero, List.set_cons_succ]
    refine wpParts_det (by rfl) (fun W hE hN => ?_) ?_
    · go_simp; refine ⟨Below.refl _ _, ?_⟩; rfl
    simp only [Act.put, List.setIfInBounds_toArray, List.set_cons_zero, List.set_cons_succ]
    refine wpParts_end fun W2 hE2 hG2 => ?_
    have hcW2 := fun b o h => hE2.cell (p := ⟨b, o, none⟩) h
    have hfW2 := fun b o h => hE2.frozen (p := ⟨b, o, none⟩) h
    have hw : IntKind.i64.wrap ((m : Int) - (at_ : Int)) = (m : Int) - (at_ : Int) := IntWalk.i64_in _ (by omega)
    have hd : ¬ IntKind.i64.wrap ((m : Int) - (at_ : Int)) < (n : Int) := by rw [hw]; omega
    have s2 := hE2.size
    clear hw
    have B1 := HB1'.out.ext hE2
    have B2 := HB2'.out.ext hE2
    have B3 := HB3'.out.ext hE2
    obtain ⟨hi, hz0, hz1, hz2⟩ := HI.out
    have HE2 := Lib.hid hE2
    clear q1 q2 q3 m1 m2 m3 l1 l2 l3 hE2
    have q1 := B1.cells
    have q2 := B2.cells
    have q3 := B3.cells
    have l1 := B1.lt
    have l2 := B2.lt
    have l3 := B3.lt
    have HB1'' := Lib.hid B1
    have HB2'' := Lib.hid B2
    have HB3'' := Lib.hid B3
    clear B1 B2 B3
    go_wp2_with (at_make; refine wpList_make_own _ rfl _ _ 24 rfl (w.heap.size + 1 + 1 + 1) 5 i0 _ 1 Try.underlying24 hi hz0 hz1 .i64 .i64 (n : Int) n rfl rfl rfl (by rw [hz2]; omega) (by unfold maxLen; omega) (by omega) ?_; intro w3 hown3 hg3; have hb3 := (Below.refl W2.heap.size W2).grown hg3 (Nat.le_refl _) (fun k e => by cases e); have HO3 := Lib.hid hown3; have s3 := hb3.size; have b13 := HB1''.out.ext hb3; have q1 := b13.cells; have l1 := b13.lt; have b23 := Lib.hid (HB2''.out.ext hb3); have b33 := Lib.hid (HB3''.out.ext hb3); have HB3b := Lib.hid hb3; have hb13 := Lib.hid b13; clear hown3 hg3 hi b13 hb3 q2 q3 l2 l3)
    go_step3
    go_wp2_with fail
    refine (Try_runs F fa la fl fc ll lc _).mono ?_; rintro e w4 ⟨rfl, rfl⟩
    go_wp2_with fail
    obtain ⟨L, hL⟩ : ∃ L, ((w3.alloc (Obj.cells #[Value.slice (some { block := W2.heap.size, off := 0 }) 0 n] 24)).alloc (Obj.cells [.slice fa fl fc, .slice la ll lc, .int .i64 F.fuse, .int .i64 F.fault, .bool F.off].toArray 27)) = L := ⟨_, rfl⟩
    have hsz : L.heap.size = w3.heap.size + 1 + 1 := by rw [← hL]; simp
    have hw3L : Below w3.heap.size w3 L := by rw [← hL]; exact ((Below.refl _ _).alloc (by omega) _).alloc (by simp) _
    have hw1L : Below w1.heap.size w1 L := (HE2.out.trans (HB3b.out.mono s2)).trans (hw3L.mono (by omega))
    have hbelL : Below w.heap.size w L := bel.trans (hw1L.mono (by omega))
    have bB : Boxed L w3.heap.size 24 (Value.slice (some { block := W2.heap.size, off := 0 }) 0 n) := by rw [← hL]; exact (Boxed.new w3 _ _).alloc _
    have bX : Blk L (w3.heap.size + 1) [.slice fa fl fc, .slice la ll lc, .int .i64 F.fuse, .int .i64 F.fault, .bool F.off] 27 := by rw [← hL]; exact Blk.new' (w3.alloc _) [.slice fa fl fc, .slice la ll lc, .int .i64 F.fuse, .int .i64 F.fault, .bool F.off] _ (by simp)
    have hown : L.ownsRow (w.heap.size + 1 + 1 + 1) 5 1 (Value.slice (some { block := W2.heap.size, off := 0 }) 0 n) 0 [] := by
      rw [← hL]
      exact (HO3.out.kept (World.grownBy_alloc _ _ none) (.inr (by simp [Value.ownBlock]))).kept (World.grownBy_alloc _ _ none) (.inr (by simp [Value.ownBlock]))
    have hn0 : w.heap.size + 1 + 1 + 1 ≤ L.heap.size := by omega
    have hseq := Try_runs1 F fa la fl fc ll lc L S (4 - 1) (w.heap.size + 1 + 1 + 1) (w3.heap.size + 1) (by decide) (HF1.out.ext hw1L) HR.out (fun b h => by have := HSS.out b h; omega) hn0 bX
    have HSEQ := Lib.hid hseq
    have b2 := b23.out.ext hw3L
    have b3 := b33.out.ext hw3L
    have HB2L := Lib.hid b2
    have HB3L := Lib.hid b3
    have HBEL := Lib.hid hbelL
    have hN : F.loose.length + 1 ≤ 524289 := by
      have h1 := (FileD.right_spec.1 HR.out).2.2.2.2
      have h3 := full_len (FileD.right_spec.1 HR.out).1
      unfold FileD.many at h1
      omega
    have HN := Lib.hid hN
    have HOWN := holdsRow_own (β := List (RunT L S)) (w.heap.size + 1 + 1 + 1) w3.heap.size 24 5 1 (fun pre => (readOf at_ n pre).length) (fun pre => u8s (readOf at_ n pre)) (fun _ _ => True)
    rw [show ((w3.alloc (Obj.cells #[Value.slice (some { block := W2.heap.size, off := 0 }) 0 n] 24)).alloc (Obj.cells [.slice fa fl fc, .slice la ll lc, .int .i64 F.fuse, .int .i64 F.fault, .bool F.off].toArray 27)) = L from hL]
    clear hseq hw3L hw1L hbelL hL hN b2 b3 q1 l1 bel
    refine wpIn_wide.1 (wpIn_rangeFunc_ownF (n := 4) rfl (by decide) (gf := 44) (lb := #[.pointer (some ⟨w3.heap.size + 1, 0, none⟩)]) rfl trivial Try_enter44 HSEQ.out KpR.t (KpR.b hn0 (by omega)) (Below.refl _ _) (fun _ => rfl)
      (fun pre W => (∃ v, Boxed W w3.heap.size 24 v ∧ W.ownsRow (w.heap.size + 1 + 1 + 1) 5 1 v (readOf at_ n pre).length (u8s (readOf at_ n pre)) ∧ True) ∧ Below (w.heap.size + 1 + 1 + 1) L W ∧ Blk W (w3.heap.size + 1) [.slice fa fl fc, .slice la ll lc, .int .i64 F.fuse, .int .i64 F.fault, .bool F.off] 27)
      (fun c pre W => (c = .exit 1 ∧ ∃ pre' x, pre = pre' ++ [x] ∧ ((at_ + n : Nat) : Int) ≤ x.1.at_ ∧ ∃ v, Boxed W w3.heap.size 24 v ∧ W.ownsRow (w.heap.size + 1 + 1 + 1) 5 1 v (readOf at_ n pre').length (u8s (readOf at_ n pre')) ∧ True) ∧ Below (w.heap.size + 1 + 1 + 1) L W)
      (OwnFrom.and (Own.from HOWN _) (OwnFrom.and (ownFrom_below hn0 hn0) (Own.from (blk_own _ _ _) _)))
      (fun c => OwnFrom.and (Own.from (fun s A B row hs hg hr => by obtain ⟨hc, pre', x, e, hx, hv⟩ := hs; exact ⟨hc, pre', x, e, hx, HOWN pre' A B row hv hg hr⟩) _) (ownFrom_below hn0 hn0))
      ⟨⟨_, bB, hown, trivial⟩, Below.refl _ _, bX⟩
      ?act ?assign ?body ?done ?stop)
    case assign =>
      intro l x W K hK
      gi_wp2
      exact hK
    case body =>
      rintro l pre x W ⟨⟨v, hv, hrow, _⟩, hB, hblk⟩ hlt
      obtain ⟨o, a, xl, xc, ls, hxe⟩ : ∃ (o : Nat) (a : Option Addr) (xl xc : Nat) (ls : List UInt8), x.1 = ⟨(o : Int), a, xl, xc, ls⟩ :=
        ⟨x.1.at_.toNat, x.1.a, x.1.len, x.1.cap, x.1.l, by have := x.2.2.2.1; cases hx : x.1; simp only [hx] at this ⊢; congr 1; omega⟩
      obtain ⟨hx1, hx2, hx3, hx4, hx5⟩ := x.2
      rw [hxe] at hx1 hx2 hx3 hx4 hx5
      dsimp only at hx1 hx2 hx3 hx4 hx5
      have HXE := Lib.hid hxe
      rw [hxe]
      dsimp only
      clear hxe
      have hc := hv.cell
      have hb2 := HB2L.out.below hB (by omega)
      have hb3 := HB3L.out.below hB (by omega)
      have q2 := hb2.cells
      have q3 := hb3.cells
      have l2 := hb2.lt
      have l3 := hb3.lt
      have lv := hv.lt
      have hbs := hx1.same hB.size (fun b hb _ => hB.block b (by have := HSS.out b hb; omega))
      have hlen := hx1.at_.hlen
      have hcap := hx1.at_.hcap
      have hx6 : (xl : Int) ≤ 524288 := by omega
      have hw1 : IntKind.i64.wrap ((at_ : Int) + (n : Int)) = (at_ : Int) + (n : Int) := IntWalk.i64_in _ (by omega)
      have HBS := Lib.hid hbs
      have HV := Lib.hid hv
      have HROW := Lib.hid hrow
      have HBL := Lib.hid hB
      have HBK := Lib.hid hblk
      have HX := Lib.hid hx5
      have HAT := Lib.hid hx1.at_
      have hWs : w.heap.size + 1 + 1 + 1 ≤ W.heap.size := Nat.le_trans hn0 hB.size
      have HT := Lib.hid hlt
      clear hbs hv hrow hB hblk hx1 hb2 hb3 hlt hx5
      by_cases g5 : at_ + n ≤ o
      · have g6 : (at_ : Int) + (n : Int) ≤ (o : Int) := by omega
        have HG := Lib.hid g5
        clear g5
        gi_wp2
        exact ⟨KeepsOthers.refl _, ⟨rfl, pre, x, rfl, by rw [HXE.out]; show ((at_ + n : Nat) : Int) ≤ (o : Int); omega, v, HV.out, HROW.out, trivial⟩, HBL.out⟩
      · have g6 : ¬ (at_ : Int) + (n : Int) ≤ (o : Int) := by omega
        have hw2 : IntKind.i64.wrap ((o : Int) + (xl : Int)) = (o : Int) + (xl : Int) := IntWalk.i64_in _ (by omega)
        by_cases g7 : o + xl ≤ at_
        · have g8 : ¬ (at_ : Int) < (o : Int) + (xl : Int) := by omega
          have hp : Dav.part at_ n x = [] := by
            unfold Dav.part
            rw [HXE.out]
            refine List.drop_eq_nil_of_le ?_
            rw [List.length_take]
            show min _ ls.length ≤ at_ - (o : Int).toNat
            rw [hlen, Int.toNat_natCast]; omega
          have HP := Lib.hid hp
          clear hp g7 g5
          have hz : W.ownsRow (w.heap.size + 1 + 1 + 1) 5 1 v (readOf at_ n (pre ++ [x])).length (u8s (readOf at_ n (pre ++ [x]))) := by
            rw [readOf_snoc, HP.out, List.append_nil]; exact HROW.out
          have HZ := Lib.hid hz
          clear hz
          gi_wp2
          refine ⟨KeepsOthers.refl _, KpR.refl _ _ _, ⟨v, HV.out, ?_⟩, HBL.out, HBK.out⟩
          first | exact ⟨HZ.out, trivial⟩ | exact HZ.out
        · have g8 : (at_ : Int) < (o : Int) + (xl : Int) := by omega
          have G5 := Lib.hid g5
          have G7 := Lib.hid g7
          clear g5 g7
          have hvs : ∃ va vn vc, v = .slice va vn vc := by
            obtain ⟨va, vc, rfl, _⟩ := own_cells HROW.out
            exact ⟨_, _, _, rfl⟩
          have kx : 0 < xl := by
            have := G5.out; have := G7.out
            apply Classical.byContradiction
            intro h
            have h1 : xl = 0 := by omega
            have h2 := HX.out h1
            omega
          obtain ⟨b0, o0, rfl⟩ : ∃ b0 o0, a = some ⟨b0, o0, none⟩ := by
            have h0 : 0 < ls.length := by omega
            obtain ⟨c0, hc0⟩ : ∃ c0, ls[0]? = some c0 := ⟨_, List.getElem?_eq_getElem h0⟩
            obtain ⟨b0, o0, h1, _⟩ := HAT.out.hat 0 c0 hc0
            exact ⟨b0, o0, h1⟩
          obtain ⟨lo, hlo⟩ : ∃ lo : Nat, lo = at_ - o := ⟨_, rfl⟩
          obtain ⟨hi', hhi⟩ : ∃ hi' : Nat, hi' = min (at_ + n - o) xl := ⟨_, rfl⟩
          have k1 : lo ≤ hi' := by have := G5.out; have := G7.out; omega
          have k2 : hi' ≤ xl := by omega
          have k3 : (if (at_ : Int) - (o : Int) < 0 then (0 : Int) else (at_ : Int) - (o : Int)) = (lo : Int) := by split <;> omega
          have k4 : (if (xl : Int) < (at_ : Int) + (n : Int) - (o : Int) then (xl : Int) else (at_ : Int) + (n : Int) - (o : Int)) = (hi' : Int) := by have := G5.out; split <;> omega
          have k9 : ¬ xc = lo := by have := G7.out; have := G5.out; omega
          have k5 : IntKind.i64.wrap ((at_ : Int) - (o : Int)) = (at_ : Int) - (o : Int) := IntWalk.i64_in _ (by omega)
          have k6 : IntKind.i64.wrap ((at_ : Int) + (n : Int) - (o : Int)) = (at_ : Int) + (n : Int) - (o : Int) := IntWalk.i64_in _ (by omega)
          have k7 : (lo : Int) ≤ (hi' : Int) := by omega
          have k8 : (hi' : Int) ≤ (xc : Int) := by omega
          have k10 : hi' ≤ xc := by omega
          have HLO := Lib.hid hlo
          have HHI := Lib.hid hhi
          clear hlo hhi
          gi_wp2_with fail
          refine' wpIn_region_seqF [] [.inl _, .inl _, .inl _, .inl _, .inl _, .inl _, .inl _, .inl _, .inl _, .inl _, .inl _, .inl _, .inl _, .inl _, .inl _] (by kernel_rfl) (by kernel_rfl) (by kernel_rfl) ?main2
          case main2 =>
            refine wpParts_det (by rfl) (fun W hE hN => ?_) ?_
            · have hc := fun b o h => hE.cell (p := ⟨b, o, none⟩) h
              go_simp; refine ⟨Below.refl _ _, ?_⟩; rfl
            simp only [Act.put, List.setIfInBounds_toArray, List.set_cons_zero, List.set_cons_succ]
            refine wpParts_det (by rfl) (fun W hE hN => ?_) ?_
            · go_simp; refine ⟨Below.refl _ _, ?_⟩; rfl
            simp only [Act.put, List.setIfInBounds_toArray, List.set_cons_zero, List.set_cons_succ]
            refine wpParts_det (by rfl) (fun W hE hN => ?_) ?_
            · have hc := fun b o h => hE.cell (p := ⟨b, o, none⟩) h
              go_simp; refine ⟨Below.refl _ _, ?_⟩; rfl
            simp only [Act.put, List.setIfInBounds_toArray, List.set_cons_zero, List.set_cons_succ]
            refine wpParts_det (by rfl) (fun W hE hN => ?_) ?_
            · go_simp; refine ⟨Below.refl _ _, ?_⟩; rfl
            simp only [Act.put, List.setIfInBounds_toArray, List.set_cons_zero, List.set_cons_succ]
            refine wpParts_det (by rfl) (fun W hE hN => ?_) ?_
            · go_simp; refine ⟨Below.refl _ _, ?_⟩; rfl
            simp only [Act.put, List.setIfInBounds_toArray, List.set_cons_zero, List.set_cons_succ]
            refine wpParts_det (by rfl) (fun W hE hN => ?_) ?_
            · go_simp; refine ⟨Below.refl _ _, ?_⟩; rfl
            simp only [Act.put, List.setIfInBounds_toArray, List.set_cons_zero, List.set_cons_succ]
            refine wpParts_det (by rfl) (fun W hE hN => ?_) ?_
            · have hc := fun b o h => hE.cell (p := ⟨b, o, none⟩) h
              go_simp; refine ⟨Below.refl _ _, ?_⟩; rfl
            simp only [Act.put, List.setIfInBounds_toArray, List.set_cons_zero, List.set_cons_succ]
            refine wpParts_det (by rfl) (fun W hE hN => ?_) ?_
            · have hc := fun b o h => hE.cell (p := ⟨b, o, none⟩) h
              go_simp; refine ⟨Below.refl _ _, ?_⟩; rfl
            simp only [Act.put, List.setIfInBounds_toArray, List.set_cons_zero, List.set_cons_succ]
            refine wpParts_det (by rfl) (fun W hE hN => ?_) ?_
            · go_simp; refine ⟨Below.refl _ _, ?_⟩; rfl
            simp only [Act.put, List.setIfInBounds_toArray, List.set_cons_zero, List.set_cons_succ]
            refine wpParts_det (by rfl) (fun W hE hN => ?_) ?_
            · go_simp; refine ⟨Below.refl _ _, ?_⟩; rfl
            simp only [Act.put, List.setIfInBounds_toArray, List.set_cons_zero, List.set_cons_succ]
            refine wpParts_det (by rfl) (fun W hE hN => ?_) ?_
            · go_simp; refine ⟨Below.refl _ _, ?_⟩; rfl
            simp only [Act.put, List.setIfInBounds_toArray, List.set_cons_zero, List.set_cons_succ]
            refine wpParts_det (by rfl) (fun W hE hN => ?_) ?_
            · go_simp; refine ⟨Below.refl _ _, ?_⟩; rfl
            simp only [Act.put, List.setIfInBounds_toArray, List.set_cons_zero, List.set_cons_succ]
            refine wpParts_det (by rfl) (fun W hE hN => ?_) ?_
            · go_simp; refine ⟨Below.refl _ _, ?_⟩; rfl
            simp only [Act.put, List.setIfInBounds_toArray, List.set_cons_zero, List.set_cons_succ]
            refine wpParts_det (by rfl) (fun W hE hN => ?_) ?_
            · go_simp; refine ⟨Below.refl _ _, ?_⟩; rfl
            simp only [Act.put, List.setIfInBounds_toArray, List.set_cons_zero, List.set_cons_succ]
            refine wpParts_det (by rfl) (fun W hE hN => ?_) ?_
            · go_simp; refine ⟨Below.refl _ _, ?_⟩; rfl
            simp only [Act.put, List.setIfInBounds_toArray, List.set_cons_zero, List.set_cons_succ]
            refine wpParts_end fun W5 hE5 hG5 => ?_
            have hcW5 := fun b o h => hE5.cell (p := ⟨b, o, none⟩) h
            have hfW5 := fun b o h => hE5.frozen (p := ⟨b, o, none⟩) h
            have s5 := hE5.size
            have HB5 := HBL.out.trans (hE5.mono hWs)
            have HV5 : Boxed W5 w3.heap.size 24 v := (hE5.block _ lv).trans HV.out
            have HROW5 := ownsRow_ext HROW.out hE5
            have HBK5 := HBK.out.ext hE5
            have hc5 := HV5.cell
            have hpart : Dav.part at_ n x = (ls.take hi').drop lo := by
              unfold Dav.part
              rw [HXE.out, HHI.out, HLO.out]
              show List.drop (at_ - (o : Int).toNat) (List.take (at_ + n - (o : Int).toNat) ls) = _
              rw [Int.toNat_natCast]
              by_cases h : at_ + n - o ≤ xl
              · rw [Nat.min_eq_left h]
              · rw [Nat.min_eq_right (by omega), List.take_of_length_le (i := xl) (by omega), List.take_of_length_le (by omega)]
            have hcs := (HBS.out.ext hE5).cells.part k1 k2
            rw [u8s_part, ← hpart] at hcs
            have HCS := Lib.hid hcs
            have hpl : (Dav.part at_ n x).length = hi' - lo := by rw [hpart, List.length_drop, List.length_take]; omega
            have hrl := readOf_le at_ n pre
            have hn1 : (readOf at_ n pre).length + (hi' - lo) ≤ 140737488355328 := by have := HN.out; have := HT.out; omega
            have HPL := Lib.hid hpl
            have HV5' := Lib.hid HV5
            have HROW5' := Lib.hid HROW5
            have HBK5' := Lib.hid HBK5
            have HE5 := Lib.hid hE5
            have hn5 : w.heap.size + 1 + 1 + 1 ≤ W5.heap.size := by omega
            clear hcs hpart hpl hrl HV5 HROW5 HBK5 hE5 q2 q3
            go_wp2_with (at_builtin; refine wpList_append_rowS rfl (.tmp 49) (.tmp 63) 24 rfl Try_elemU8 (w.heap.size + 1 + 1 + 1) _ (readOf at_ n pre).length (u8s (readOf at_ n pre)) rfl HROW5'.out S (some ⟨b0, o0 + lo, none⟩) (hi' - lo) (xc - lo) (u8s (Dav.part at_ n x)) rfl HCS.out (u8s_one _) (fun h => by cases h) (by unfold maxLen; omega) (by omega) hn5 ?_; intro v' w' hown' hgrow; obtain ⟨a', c', rfl, hz⟩ := own_cells hown'; obtain ⟨hv1, hv2, hr2, hk2, hb2, hq2⟩ := boxed_appended HV5'.out (by decide) HROW5'.out hn5 (by omega) hown' hgrow; have hc1 := hv1.cell; have hf1 := hv1.frozen; clear hn1)
            refine onlyN_normal ?_
            gi_wp2_with fail
            have hx := hq2 _ _ _ (by decide) (by omega) HBK5'.out
            have hkb := hk2
            have hKP : KpR (w.heap.size + 1 + 1 + 1) (w3.heap.size + 1) W (w'.setCell ⟨w3.heap.size, 0, none⟩ (Value.slice a' ((readOf at_ n pre).length + (hi' - lo)) c')) := ⟨(HE5.out.mono hWs).trans hb2, Eq.trans hx (Eq.symm HBK.out)⟩
            have hz2 : (w'.setCell ⟨w3.heap.size, 0, none⟩ (Value.slice a' ((readOf at_ n pre).length + (hi' - lo)) c')).ownsRow (w.heap.size + 1 + 1 + 1) 5 1 (Value.slice a' ((readOf at_ n pre).length + (hi' - lo)) c') (readOf at_ n (pre ++ [x])).length (u8s (readOf at_ n (pre ++ [x]))) := by
              rw [readOf_snoc, u8s_append, List.length_append, HPL.out]; exact hr2
            refine ⟨(keeps_below HE5.out).trans hk2, hKP, ⟨_, hv2, ?_⟩, HB5.trans hb2, hx⟩
            first | exact ⟨hz2, trivial⟩ | exact hz2
    case done =>
      rintro D ys W hD hys ⟨⟨v, hv, hrow, _⟩, hB, hblk⟩ hK
      rw [readOf_all at_ n hys] at hrow
      have hall := FileD.all_length F
      have hmx2 : F.all.length ≤ 524288 := by have := HM.out; omega
      obtain ⟨r, hr⟩ : ∃ r, (F.all.drop at_).take n = r := ⟨_, rfl⟩
      rw [hr] at hrow
      have HRR := Lib.hid hr
      obtain ⟨q, hq⟩ : ∃ q, r.length = q := ⟨_, rfl⟩
      have hql : q ≤ 524288 := by rw [← hq, ← hr, List.length_take, List.length_drop]; omega
      rw [hq] at hrow
      obtain ⟨a', c', rfl, hz1', hz2', hz3', hz4'⟩ := own_cells hrow
      have hc := hv.cell
      have lv := hv.lt
      have hBytes : BytesS W (fun b => w.heap.size + 1 + 1 + 1 ≤ b ∧ b ≠ D) a' q c' r := BytesS.of_cells (hz4'.ne_obj hK rfl) hz1' hz2' (by omega) hz3'
      have HBY := Lib.hid hBytes
      have HBW := Lib.hid hB
      have HKK := Lib.hid hK
      have hDw : w.heap.size ≤ D := by omega
      clear hv hrow hz1' hz2' hz3' hz4' hall hmx2 hB hBytes hr hq
      go_wp2_with fail
      rw [Exit.noGoto_ret]
      refine ⟨by simp, .inl ⟨_, _, rfl, run_takeDeferred HKK.out, ?_⟩⟩
      refine ⟨.tuple #[.slice a' q c', .int .i64 0], by simp [results, Try.results39, go_sem], a', q, c', rfl, ?_, ?_⟩
      · rw [HRR.out]
        refine (HBY.out.same (by simp) fun b h hlt => putObj_block hlt h.2).mono fun b h => ?_
        have := h.1; omega
      · exact (HBEL.out.trans (HBW.out.mono (by omega))).trans (belowK_b (w := w) (Nat.le_refl _) W D _ _ hDw HKK.out rfl rfl)
    case stop =>
      rintro D c pre W hD ⟨k, hk⟩ ⟨⟨rfl, pre', x, rfl, hx, v, hv, hrow, _⟩, hB⟩ hK
      rw [readOf_some at_ n hk hx] at hrow
      refine wpIn_wide.2 ?_
      have hall := FileD.all_length F
      have hmx2 : F.all.length ≤ 524288 := by have := HM.out; omega
      obtain ⟨r, hr⟩ : ∃ r, (F.all.drop at_).take n = r := ⟨_, rfl⟩
      rw [hr] at hrow
      have HRR := Lib.hid hr
      obtain ⟨q, hq⟩ : ∃ q, r.length = q := ⟨_, rfl⟩
      have hql : q ≤ 524288 := by rw [← hq, ← hr, List.length_take, List.length_drop]; omega
      rw [hq] at hrow
      obtain ⟨a', c', rfl, hz1', hz2', hz3', hz4'⟩ := own_cells hrow
      have hc := hv.cell
      have lv := hv.lt
      have hBytes : BytesS W (fun b => w.heap.size + 1 + 1 + 1 ≤ b ∧ b ≠ D) a' q c' r := BytesS.of_cells (hz4'.ne_obj hK rfl) hz1' hz2' (by omega) hz3'
      have HBY := Lib.hid hBytes
      have HBW := Lib.hid hB
      have HKK := Lib.hid hK
      have hDw : w.heap.size ≤ D := by omega
      clear hv hrow hz1' hz2' hz3' hz4' hall hmx2 hB hBytes hr hq
      go_wp2_with fail
      rw [Exit.noGoto_ret]
      refine ⟨by simp, .inl ⟨_, _, rfl, run_takeDeferred HKK.out, ?_⟩⟩
      refine ⟨.tuple #[.slice a' q c', .int .i64 0], by simp [results, Try.results39, go_sem], a', q, c', rfl, ?_, ?_⟩
      · rw [HRR.out]
        refine (HBY.out.same (by simp) fun b h hlt => putObj_block hlt h.2).mono fun b h => ?_
        have := h.1; omega
      · exact (HBEL.out.trans (HBW.out.mono (by omega))).trans (belowK_b (w := w) (Nat.le_refl _) W D _ _ hDw HKK.out rfl rfl)
end Go.Proofs.Ythpdcbklaapngaa

namespace Go.Dav
set_option linter.unusedVariables false
set_option linter.unusedSimpArgs false
open Go Go.RowKit

/-- How much of a piece stays. -/
def staysOf (keep : List Bool) (tear cut : Int) (i : Nat) (p : List UInt8) : Nat :=
  if (i : Int) = tear then min (max cut 0).toNat p.length else if keep[i]? = some true then p.length else 0
def crashStep (keep : List Bool) (tear cut : Int) (s : List UInt8 × Nat) (i : Nat) (p : List UInt8) : List UInt8 × Nat :=
  if 0 < staysOf keep tear cut i p then (s.1 ++ List.replicate s.2 0 ++ p.take (staysOf keep tear cut i p), p.length - staysOf keep tear cut i p) else (s.1, s.2 + p.length)
/-- .. behind the first k pieces. -/
def crashTo (F : FileD) (keep : List Bool) (tear cut : Int) : Nat → List UInt8 × Nat
  | 0 => (F.firm, 0)
  | k + 1 => match F.loose[k]? with
    | some p => crashStep keep tear cut (crashTo F keep tear cut k) k p
    | none => crashTo F keep tear cut k
theorem crashTo_succ {F : FileD} {keep : List Bool} {tear cut : Int} {k : Nat} {p : List UInt8} (h : F.loose[k]? = some p) : crashTo F keep tear cut (k + 1) = crashStep keep tear cut (crashTo F keep tear cut k) k p := by
  rw [crashTo, h]
def FileD.crash (F : FileD) (keep : List Bool) (tear cut : Int) : FileD × Int :=
  if F.right = true then ({ firm := (crashTo F keep tear cut F.loose.length).1, loose := [], fuse := -1, fault := -1, off := false }, 0) else (F, 200)
theorem staysOf_le (keep : List Bool) (tear cut : Int) (i : Nat) (p : List UInt8) : staysOf keep tear cut i p ≤ p.length := by
  unfold staysOf; split
  · exact Nat.min_le_right _ _
  · split <;> omega
/-- No more bytes than there were. -/
theorem crashTo_le (F : FileD) (keep : List Bool) (tear cut : Int) : ∀ k, (crashTo F keep tear cut k).1.length + (crashTo F keep tear cut k).2 ≤ F.firm.length + sumTo F.loose k
  | 0 => by simp [crashTo]
  | k + 1 => by
    have ih := crashTo_le F keep tear cut k
    cases h : F.loose[k]? with
    | none =>
      have e : crashTo F keep tear cut (k + 1) = crashTo F keep tear cut k := by rw [crashTo, h]
      rw [e]
      have : sumTo F.loose (k + 1) = sumTo F.loose k := by
        unfold sumTo
        rw [List.take_of_length_le (by have := List.getElem?_eq_none_iff.1 h; omega), List.take_of_length_le (by have := List.getElem?_eq_none_iff.1 h; omega)]
      omega
    | some p =>
      have hs := staysOf_le keep tear cut k p
      rw [crashTo_succ h, sumTo_succ h]
      unfold crashStep
      split
      · simp; omega
      · simp; omega
end Go.Dav
namespace Go.Proofs.Ythpdcbklaapngaa
set_option linter.unusedVariables false
set_option linter.unusedSimpArgs false
open Go.RowKit Go.Dav Go.Shelf
theorem Try_Read (F : FileD) (fa la : Option Addr) (fl fc ll lc : Nat) (at_ n : Int) (w : World) (S : Nat → Prop) (hF : FileS w S fa fl fc la ll lc F) (hS : ∀ b, S b → b < w.heap.size) (h1 : I64' at_) (h2 : I64' n) :
    Calls Try.prog 39 #[.agg #[.slice fa fl fc, .slice la ll lc, .int .i64 F.fuse, .int .i64 F.fault, .bool F.off], .int .i64 at_, .int .i64 n] w (GivesRead w (F.read at_ n).1 (F.read at_ n).2) := by
  by_cases h : (F.read at_ n).2 = 0
  · have hr : F.right = true := by
      apply Classical.byContradiction
      intro hr
      unfold FileD.read at h
      rw [if_neg hr] at h
      cases h
    have hab : ¬ (at_ < 0 ∨ n < 0) := fun hab => by
      unfold FileD.read at h
      rw [if_pos hr, if_pos hab] at h
      cases h
    have hm : ¬ (F.many : Int) - at_ < n := fun hm => by
      unfold FileD.read at h
      rw [if_pos hr, if_neg hab, if_pos hm] at h
      cases h
    have e : F.read at_ n = ((F.all.drop at_.toNat).take n.toNat, 0) := by
      unfold FileD.read
      rw [if_pos hr, if_neg hab, if_neg hm]
    rw [e]
    have ea : at_ = ((at_.toNat : Nat) : Int) := by omega
    have en : n = ((n.toNat : Nat) : Int) := by omega
    have := Try_Read_yes F fa la fl fc ll lc at_.toNat n.toNat w S hF hS hr (by omega)
    rw [← ea, ← en] at this
    exact this
  · exact Try_Read_no F fa la fl fc ll lc at_ n w hF.at_ h1 h2 h
end Go.Proofs.Ythpdcbklaapngaa

namespace Go.Dav
set_option linter.unusedVariables false
set_option linter.unusedSimpArgs false
open Go Go.RowKit
/-- Do these bytes end within a block whose mark is not 0? -/
def isMarked (l : List UInt8) : Bool := decide (l.length % 64 ≠ 0) && (l[l.length - l.length % 64]? != some 0)
def padFor (l : List UInt8) : List UInt8 := if isMarked l = true then List.replicate (64 - l.length % 64) 0 else []
/-- What is appended, and where its first byte stands. -/
def pieceOf (l cs : List UInt8) : List UInt8 := layOn l.length (padFor l) cs
def placeOf (l cs : List UInt8) : Nat := match cs with | [] => 0 | c :: _ => l.length + (layOn l.length (padFor l) [c]).length - 1
theorem padFor_len (l : List UInt8) : (padFor l).length ≤ 64 := by unfold padFor; split <;> simp <;> omega
theorem layOn_take {n : Nat} {b0 cs : List UInt8} {k : Nat} {c : UInt8} (h : cs[k]? = some c) : layOn n b0 (cs.take (k + 1)) = putByte n (layOn n b0 (cs.take k)) c := by
  rw [List.take_add_one, h, Option.toList_some, layOn_snoc]
theorem read_one {F : FileD} (hr : F.right = true) {i : Nat} {x : UInt8} (h : F.all[i]? = some x) : F.read (i : Int) 1 = ([x], 0) := by
  have hi := (List.getElem?_eq_some_iff.1 h).1
  have hl := F.all_length
  unfold FileD.read
  rw [if_pos hr, if_neg (by omega), if_neg (by omega)]
  have e : (F.all.drop (i : Int).toNat).take (1 : Int).toNat = [x] := by
    rw [Int.toNat_natCast, show (1 : Int).toNat = 0 + 1 from rfl, List.take_add_one, List.getElem?_drop, Nat.add_zero, h]; simp
  rw [e]
end Go.Dav
namespace Go.Proofs.Ythpdcbklaapngaa
set_option linter.unusedVariables false
set_option linter.unusedSimpArgs false
open Go.RowKit Go.Dav
attribute [local go_sem] Gives ite_val ite_val_true

set_option maxRecDepth 100000 in
set_option maxHeartbeats 8000000 in
theorem Try_marked (F : FileD) (fa la : Option Addr) (fl fc ll lc : Nat) (w : World) (S : Nat → Prop) (hF : FileS w S fa fl fc la ll lc F) (hS : ∀ b, S b → b < w.heap.size) (hr : F.right = true) :
    Calls Try.prog 34 #[.agg #[.slice fa fl fc, .slice la ll lc, .int .i64 F.fuse, .int .i64 F.fault, .bool F.off], .int .i64 (F.many : Int)] w fun e w' => e = .returned (.bool (isMarked F.all)) ∧ Below w.heap.size w w' := by
  obtain ⟨m, hm⟩ : ∃ m, F.many = m := ⟨_, rfl⟩
  have hmx := (FileD.right_spec.1 hr).2.2.2.2
  have hal := F.all_length
  rw [hm] at hmx hal ⊢
  have hW : Below w.heap.size w (w.alloc (.cells [.slice fa fl fc, .slice la ll lc, .int .i64 F.fuse, .int .i64 F.fault, .bool F.off].toArray 27)) := (by repeat (first | (with_reducible exact Below.refl _ _) | (with_reducible exact Below.refl _ _) | (with_reducible refine Below.setCell ?_ (by first | omega | (simp; done) | (simp; omega)) _) | (with_reducible refine Below.alloc ?_ (by first | omega | (simp; done) | (simp; omega)) _) | (with_reducible refine Below.drew ?_) | (with_reducible refine below_drewN ?_ _)))
  have HB := Lib.hid (Blk.new w [.slice fa fl fc, .slice la ll lc, .int .i64 F.fuse, .int .i64 F.fault, .bool F.off] 27)
  have hF2 := hF.ext hW
  have HW := Lib.hid hW
  have htm : (m : Int).tmod 64 = ((m % 64 : Nat) : Int) := by rw [Int.tmod_eq_emod_of_nonneg (by omega)]; omega
  by_cases h0 : m % 64 = 0
  · have h0' : (m : Int) % 64 = 0 := by omega
    have HV := Lib.hid (show isMarked F.all = false by unfold isMarked; rw [hal]; simp [h0])
    clear hF2 hW h0
    go_enter Try.func34, Try.ntmps34
    go_wp2
    go_ret
    exact ⟨by rw [HV.out]; rfl, HW.out⟩
  · have h0' : ¬ (m : Int) % 64 = 0 := by omega
    have h0'' : ((m : Int) % 64 == 0) = false := by simp; omega
    obtain ⟨x, hx⟩ : ∃ x, F.all[m - m % 64]? = some x := ⟨_, List.getElem?_eq_getElem (by omega)⟩
    have HRD := Lib.hid (read_one hr hx)
    have HV := Lib.hid (show isMarked F.all = (x != 0) by unfold isMarked; rw [hal, hx, decide_eq_true h0, Bool.true_and]; rfl)
    obtain ⟨i, hi⟩ : ∃ i, m - m % 64 = i := ⟨_, rfl⟩
    have hwi : IntKind.i64.wrap ((m : Int) - (m : Int) % 64) = (i : Int) := by rw [IntWalk.i64_in _ (by omega)]; omega
    have HI := Lib.hid hi
    have hA := Try_Read F fa la fl fc ll lc (i : Int) 1 _ S hF2 (fun b h => by have := hS b h; simp; omega) (by unfold I64'; omega) (by unfold I64'; omega)
    rw [← hi, read_one hr hx, hi] at hA
    have HA := Lib.hid hA
    have q := HB.out.cells
    have l := HB.out.lt
    clear hF2 hW hA hx hi
    go_enter Try.func34, Try.ntmps34
    go_wp2_with fail
    refine HA.out.mono ?_; rintro e w2 ⟨ra, rl, rc, rfl, hR, hb⟩
    have hrl : rl = 1 := hR.at_.hlen.symm
    subst hrl
    obtain ⟨b0, o0, rfl, hlt, hcell⟩ := hR.at_.hat 0 x rfl
    rw [Nat.add_zero] at hcell
    have BEL := Lib.hid (HW.out.trans (hb.mono HW.out.size))
    clear hR hb HA q l
    by_cases hx0 : x = 0
    · subst hx0
      have hc0 : w2.cell? ⟨b0, o0, none⟩ = some (.int .u8 0) := hcell
      clear hcell
      go_wp2
      go_ret
      exact ⟨by rw [HV.out]; rfl, BEL.out⟩
    · have hne : ((x.toNat : Int) != 0) = true := by
        simp
        intro h
        exact hx0 (by rw [← UInt8.toNat_inj]; exact_mod_cast h)
      have HX := Lib.hid (show (x != 0) = true by simp [hx0])
      clear hx0
      go_wp2
      go_ret
      exact ⟨by rw [HV.out, HX.out]; rfl, BEL.out⟩

theorem Try_makeZ (n : Nat) (hn : n ≤ 1048576) (W : World) : (Instr.makeSlice 24 (.int .i64 (n : Int)) (.int .i64 (n : Int))).run Try.prog W = .ok (.slice (some ⟨W.heap.size, 0, none⟩) n n) (W.alloc (.cells (u8s (List.replicate n 0)).toArray 5)) := by
  have hinfo : (Try.prog.info? 5).map (fun i => (i.zero, i.size, i.bytes)) = some (some (.int .u8 0), 1, 1) := by kernel_rfl
  have h := run_make_row' (P := Try.prog) 24 5 (.int .u8 0) 1 Try.underlying24 hinfo rfl .i64 .i64 n (by omega) (by omega) W
  rw [h, u8s_zeros, ← toList_madeCells_one]
theorem Try_enter35 (args : Array Value) (W : World) : (callFunc 35 args).run Try.prog W = .ok (Next.enter 35 args) W := by kernel_rfl

def TryPieceRel (w : World) (p n base : Nat) (l cs : List UInt8) (at_ : Value) (k : Nat) (wr : World) : Prop :=
  ∃ v, at_ = .int .i64 ((if k = 0 then 0 else placeOf l cs : Nat) : Int) ∧ Blk wr p [v, .int .i64 (n : Int)] 82 ∧ wr.ownsRow base 5 1 v (layOn n (padFor l) (cs.take k)).length (u8s (layOn n (padFor l) (cs.take k))) ∧ Below w.heap.size w wr ∧ base ≤ wr.heap.size

set_option maxRecDepth 100000 in
set_option maxHeartbeats 8000000 in
theorem Try_piece (F : FileD) (fa la ca : Option Addr) (fl fc ll lc cl cc : Nat) (cs : List UInt8) (w : World) (S T : Nat → Prop) (hF : FileS w S fa fl fc la ll lc F) (hS : ∀ b, S b → b < w.heap.size) (hr : F.right = true) (hc : BytesS w T ca cl cc cs) (hT : ∀ b, T b → b < w.heap.size) (hcl : cl ≤ 8192) :
    Calls Try.prog 22 #[.agg #[.slice fa fl fc, .slice la ll lc, .int .i64 F.fuse, .int .i64 F.fault, .bool F.off], .slice ca cl cc] w fun e w' => ∃ v, e = .returned (.tuple #[v, .int .i64 (placeOf F.all cs : Int)]) ∧ w'.ownsRow w.heap.size 5 1 v (pieceOf F.all cs).length (u8s (pieceOf F.all cs)) ∧ Below w.heap.size w w' := by
  obtain ⟨m, hm⟩ : ∃ m, F.many = m := ⟨_, rfl⟩
  have hmx := (FileD.right_spec.1 hr).2.2.2.2
  have hal := F.all_length
  have hL := Try_Len F fa la fl fc ll lc
  rw [hm] at hmx hal
  have hW : Below w.heap.size w (w.alloc (.cells [.slice fa fl fc, .slice la ll lc, .int .i64 F.fuse, .int .i64 F.fault, .bool F.off].toArray 27)) := (by repeat (first | (with_reducible exact Below.refl _ _) | (with_reducible exact Below.refl _ _) | (with_reducible refine Below.setCell ?_ (by first | omega | (simp; done) | (simp; omega)) _) | (with_reducible refine Below.alloc ?_ (by first | omega | (simp; done) | (simp; omega)) _) | (with_reducible refine Below.drew ?_) | (with_reducible refine below_drewN ?_ _)))
  have HB := Lib.hid (Blk.new w [.slice fa fl fc, .slice la ll lc, .int .i64 F.fuse, .int .i64 F.fault, .bool F.off] 27)
  have HF := Lib.hid (hF.ext hW)
  have HC := Lib.hid (hc.ext hW)
  have HC0 := Lib.hid hc
  have HW := Lib.hid hW
  have HS := Lib.hid hS
  have HR := Lib.hid hr
  have HM := Lib.hid hm
  have HAL := Lib.hid hal
  have hA := Try_Len F fa la fl fc ll lc _ HF.out.at_
  rw [if_pos hr, hm] at hA
  have HA := Lib.hid hA
  have q := HB.out.cells
  have l := HB.out.lt
  have htm : (m : Int).tmod 64 = ((m % 64 : Nat) : Int) := by rw [Int.tmod_eq_emod_of_nonneg (by omega)]; omega
  clear hF hW hS hr hc hA hL hm hal
  go_enter Try.func22, Try.ntmps22
  go_wp2_with fail
  refine HA.out.mono ?_; rintro e w2 ⟨rfl, hb2⟩
  have HB2 := Lib.hid (HB.out.ext hb2)
  have HF2 := Lib.hid (HF.out.ext hb2)
  have HC2 := Lib.hid (HC.out.ext hb2)
  have BEL2 := Lib.hid (HW.out.trans (hb2.mono HW.out.size))
  clear hb2 q l HB HF HC HW HA
  have q := HB2.out.cells
  have l := HB2.out.lt
  go_wp2_with fail
  obtain ⟨WP, hWP⟩ : ∃ WP, w2.alloc (.cells #[.slice none 0 0, .int .i64 (m : Int)] 82) = WP := ⟨_, rfl⟩
  have hbP : Below w2.heap.size w2 WP := by rw [← hWP]; exact (by repeat (first | (with_reducible exact Below.refl _ _) | (with_reducible exact Below.refl _ _) | (with_reducible refine Below.setCell ?_ (by first | omega | (simp; done) | (simp; omega)) _) | (with_reducible refine Below.alloc ?_ (by first | omega | (simp; done) | (simp; omega)) _) | (with_reducible refine Below.drew ?_) | (with_reducible refine below_drewN ?_ _)))
  have HPP := Lib.hid (show Blk WP w2.heap.size [.slice none 0 0, .int .i64 (m : Int)] 82 by rw [← hWP]; exact Blk.new _ _ _)
  rw [hWP]
  have hA := Try_marked F fa la fl fc ll lc WP S (HF2.out.ext hbP) (fun b h => by have := HS.out b h; have := BEL2.out.size; have := hbP.size; omega) HR.out
  rw [HM.out] at hA
  refine hA.mono ?_; rintro e w3 ⟨rfl, hb3⟩
  have hb := hbP.trans (hb3.mono hbP.size)
  have HC3 := Lib.hid (HC2.out.ext hb)
  have HP3 := Lib.hid (HPP.out.ext hb3)
  have BEL3 := Lib.hid (BEL2.out.trans (hb.mono BEL2.out.size))
  have hs2 := BEL2.out.size
  have hs3 : w2.heap.size < w3.heap.size := HP3.out.lt
  have hen := Try_enter35
  have HCN := Lib.hid HC3.out.at_.hnil
  have hcl0 := HC3.out.at_.hlen
  have hccap := HC3.out.at_.hcap
  have HCL := Lib.hid hcl0
  clear hb hbP hb3 hWP hA q l HB2 HF2 HC2 HPP BEL2 hcl0
  cases hk : isMarked F.all with
  | true =>
    have hpd : m % 64 ≠ 0 := by unfold isMarked at hk; rw [HAL.out] at hk; intro h; rw [h] at hk; simp at hk
    obtain ⟨pd, hpd2⟩ : ∃ pd, 64 - m % 64 = pd := ⟨_, rfl⟩
    have HPF := Lib.hid (show padFor F.all = List.replicate pd 0 by unfold padFor; rw [hk, if_pos rfl, HAL.out, hpd2])
    obtain ⟨W4, hW4⟩ : ∃ W4, w3.alloc (.cells (u8s (List.replicate pd 0)).toArray 5) = W4 := ⟨_, rfl⟩
    have hmk : (Instr.makeSlice 24 (.int .i64 (pd : Int)) (.int .i64 (pd : Int))).run Try.prog w3 = .ok (.slice (some ⟨w3.heap.size, 0, none⟩) pd pd) W4 := by rw [Try_makeZ pd (by omega) w3, hW4]
    have hb4 : Below w3.heap.size w3 W4 := by rw [← hW4]; exact (by repeat (first | (with_reducible exact Below.refl _ _) | (with_reducible exact Below.refl _ _) | (with_reducible refine Below.setCell ?_ (by first | omega | (simp; done) | (simp; omega)) _) | (with_reducible refine Below.alloc ?_ (by first | omega | (simp; done) | (simp; omega)) _) | (with_reducible refine Below.drew ?_) | (with_reducible refine below_drewN ?_ _)))
    have hk4 : Blk W4 w3.heap.size (u8s (List.replicate pd 0)) 5 := by rw [← hW4]; exact Blk.new _ _ _
    have hp4 := HP3.out.ext hb4
    have hw1 : IntKind.i64.wrap (64 - (m : Int) % 64) = (pd : Int) := by rw [IntWalk.i64_in _ (by omega)]; omega
    have HP4 := Lib.hid hp4
    have HK4 := Lib.hid hk4
    have HB4 := Lib.hid (BEL3.out.trans (hb4.mono BEL3.out.size))
    have HC4 := Lib.hid (HC3.out.ext hb4)
    have q := hp4.cells
    have mk := hp4.marks
    have l := hp4.lt
    clear hp4 hk4 hb4 hW4 hk hpd
    go_wp2_with fail
    clear hmk hw1
    obtain ⟨W5, hW5⟩ : ∃ W5, W4.setCell ⟨w2.heap.size, 0, none⟩ (.slice (some ⟨w3.heap.size, 0, none⟩) pd pd) = W5 := ⟨_, rfl⟩
    have o5 : Only w2.heap.size W4 W5 := by rw [← hW5]; exact (by repeat (first | (with_reducible exact Only.refl _ _) | (with_reducible refine Only.set ?_ _ _) | (with_reducible refine Only.alloc ?_ _) | (with_reducible refine Only.drew ?_)))
    have HPx := Lib.hid (show Blk W5 w2.heap.size [.slice (some ⟨w3.heap.size, 0, none⟩) pd pd, .int .i64 (m : Int)] 82 by rw [← hW5]; exact HP4.out.set 0 _)
    have HOx := Lib.hid (show W5.ownsRow w.heap.size 5 1 (.slice (some ⟨w3.heap.size, 0, none⟩) pd pd) (padFor F.all).length (u8s (padFor F.all)) by
      rw [HPF.out, List.length_replicate]
      refine ⟨by simp [u8s], .inr ⟨_, _, _, rfl, by omega, HK4.out.only o5 (by omega), Nat.le_refl _, by unfold maxLen; omega, by simp [u8s], ?_⟩⟩
      simp [u8s])
    have BELx := Lib.hid (below_only HB4.out o5 HB4.out.size (by omega))
    have HCx := Lib.hid (HC4.out.same o5.size (fun b h hlt => o5.block b hlt (by
      intro e
      have := hT b h
      omega)))
    have hsx : w.heap.size ≤ W5.heap.size := BELx.out.size
    first | rw [hW5] | skip
    clear hW5 o5 HP4 HK4 HB4 HC4 q mk l hpd2 HPF HP3 HC3 BEL3
    go_loopw [33, 8] (fun ix atv wr => ∃ k : Nat, k ≤ cl ∧ ix = .int .i64 (k : Int) ∧ TryPieceRel w w2.heap.size m w.heap.size F.all cs atv k wr) (fun ix _ _ => cl - (intOf ix).toNat)
    case atStart => exact ⟨0, Nat.zero_le _, by go_num, _, by go_num, HPx.out, HOx.out, BELx.out, hsx⟩
    case round =>
      obtain ⟨k, hk, rfl, v, rfl, hp, ho, hbl, hsz⟩ := hrel
      have hlay := layOn_len m (padFor F.all) (cs.take k)
      have hpf := padFor_len F.all
      have htk : (cs.take k).length ≤ 8192 := by rw [List.length_take, HCL.out]; omega
      have HP := Lib.hid hp
      have HO := Lib.hid ho
      have HBL := Lib.hid hbl
      have q := hp.cells
      have l := hp.lt
      have hclI : (cl : Int) ≤ 8192 := by omega
      obtain ⟨b, hb⟩ : ∃ b, layOn m (padFor F.all) (cs.take k) = b := ⟨_, rfl⟩
      rw [hb] at HO hlay
      have HBB := Lib.hid hb
      obtain ⟨av, hav⟩ : ∃ av : Nat, (if k = 0 then 0 else placeOf F.all cs : Nat) = av := ⟨_, rfl⟩
      rw [hav]
      have HAV := Lib.hid hav
      clear hp ho hbl hb hav
      by_cases hlt : k < cl
      · obtain ⟨c, hc⟩ : ∃ c, cs[k]? = some c := ⟨_, List.getElem?_eq_getElem (by rw [HCL.out]; exact hlt)⟩
        obtain ⟨b0, o0, rfl, hlb, hcell0⟩ := (HC0.out.ext HBL.out).at_.hat k c hc
        have hkl : (k : Int) < (cl : Int) := by omega
        have HNX := Lib.hid (layOn_take (n := m) (b0 := padFor F.all) hc)
        have HLT := Lib.hid hlt
        have HCC := Lib.hid hc
        clear hc hlt hk
        go_wp2_with fail
        refine (Try_wput w2.heap.size m w.heap.size w.heap.size v b c wr HP.out HO.out hsz (Nat.le_refl _) (by omega) (by omega) (by omega)).mono ?_
        rintro e w5 ⟨rfl, v', hp5, ho5, hb5⟩
        obtain ⟨ra5, rc5, rfl, _⟩ := own_cells ho5
        have hpl := putByte_len m b c
        obtain ⟨b5, hb5'⟩ : ∃ b5, putByte m b c = b5 := ⟨_, rfl⟩
        rw [hb5'] at hp5 ho5 hpl
        have HP5 := Lib.hid hp5
        have HO5 := Lib.hid ho5
        have HBL5 := Lib.hid (HBL.out.trans hb5)
        have HB5 := Lib.hid hb5'
        have q5 := hp5.cells
        have l5 := hp5.lt
        have HSZ5 := Lib.hid (Nat.le_trans hsz hb5.size)
        clear hp5 ho5 hb5 q l hcell0
        clear hb5'
        by_cases h0 : k = 0
        · subst h0
          have HPL := Lib.hid (show placeOf F.all cs = m + b5.length - 1 by
            have h := HCC.out
            cases cs with
            | nil => cases h
            | cons c' cs' =>
              have e : c' = c := Option.some.inj h
              subst e
              show F.all.length + (layOn F.all.length (padFor F.all) [c']).length - 1 = _
              rw [HAL.out, ← HB5.out, ← HBB.out]
              rfl)
          have k1 : IntKind.i64.wrap ((m : Int) + (b5.length : Int)) = (m : Int) + (b5.length : Int) := IntWalk.i64_in _ (by omega)
          have hb1 : 1 ≤ b5.length := by rw [← HB5.out]; unfold putByte; simp
          have k2 : IntKind.i64.wrap ((m : Int) + (b5.length : Int) - 1) = ((m + b5.length - 1 : Nat) : Int) := by rw [IntWalk.i64_in _ (by omega)]; omega
          have k3 : (m : Int) + (b5.length : Int) - 1 = ((m + b5.length - 1 : Nat) : Int) := by omega
          clear hb1
          go_wp2_with fail
          go_roundw
          case rel => exact ⟨0 + 1, HLT.out, by go_num, _, by simp only [HPL.out, k3, if_neg (Nat.succ_ne_zero 0)], HP5.out, by rw [HNX.out, HBB.out, HB5.out]; exact HO5.out, HBL5.out, HSZ5.out⟩
          case measure => have := HLT.out; simp [intOf]; omega
        · have h0' : ((k : Int) == 0) = false := by simp; omega
          clear h0
          go_wp2_with fail
          go_roundw
          case rel => exact ⟨k + 1, HLT.out, by go_num, _, by have h := HAV.out; rw [if_neg (by have := h0'; simp at this; omega)] at h; rw [if_neg (by omega), h], HP5.out, by rw [HNX.out, HBB.out, HB5.out]; exact HO5.out, HBL5.out, HSZ5.out⟩
          case measure => have := HLT.out; simp [intOf]; omega
      · obtain rfl : k = cl := by omega
        have HPLZ := Lib.hid (show av = placeOf F.all cs by
          rw [← HAV.out]
          split
          · have : cs = [] := List.length_eq_zero_iff.1 (by rw [HCL.out]; assumption)
            rw [this]; rfl
          · rfl)
        rw [HPLZ.out]
        have HFIN := Lib.hid (show b = pieceOf F.all cs by rw [← HBB.out, List.take_of_length_le (by rw [HCL.out]; omega)]; unfold pieceOf; rw [HAL.out])
        obtain ⟨ra5, rc5, rfl, _⟩ := own_cells HO.out
        have q := HP.out.cells
        clear hlt hk
        go_wp2
        refine bodyPost_ret (v := .tuple #[.slice ra5 b.length rc5, .int .i64 (placeOf F.all cs : Int)]) (by simp [results, Try.results22, go_sem]) rfl ⟨_, rfl, by rw [← HFIN.out]; exact HO.out, HBL.out⟩
  | false =>
    have HPF := Lib.hid (show padFor F.all = [] by unfold padFor; rw [hk]; rfl)
    have HPx := Lib.hid HP3.out
    have HOx := Lib.hid (show w3.ownsRow w.heap.size 5 1 (.slice none 0 0) (padFor F.all).length (u8s (padFor F.all)) by rw [HPF.out]; exact World.ownsRow_nil _ _ _ _)
    have BELx := Lib.hid BEL3.out
    have HCx := Lib.hid HC3.out
    have hsx : w.heap.size ≤ w3.heap.size := BELx.out.size
    clear hk HPF HP3 HC3 BEL3
    go_wp2_with fail
    go_loopw [33, 8] (fun ix atv wr => ∃ k : Nat, k ≤ cl ∧ ix = .int .i64 (k : Int) ∧ TryPieceRel w w2.heap.size m w.heap.size F.all cs atv k wr) (fun ix _ _ => cl - (intOf ix).toNat)
    case atStart => exact ⟨0, Nat.zero_le _, by go_num, _, by go_num, HPx.out, HOx.out, BELx.out, hsx⟩
    case round =>
      obtain ⟨k, hk, rfl, v, rfl, hp, ho, hbl, hsz⟩ := hrel
      have hlay := layOn_len m (padFor F.all) (cs.take k)
      have hpf := padFor_len F.all
      have htk : (cs.take k).length ≤ 8192 := by rw [List.length_take, HCL.out]; omega
      have HP := Lib.hid hp
      have HO := Lib.hid ho
      have HBL := Lib.hid hbl
      have q := hp.cells
      have l := hp.lt
      have hclI : (cl : Int) ≤ 8192 := by omega
      obtain ⟨b, hb⟩ : ∃ b, layOn m (padFor F.all) (cs.take k) = b := ⟨_, rfl⟩
      rw [hb] at HO hlay
      have HBB := Lib.hid hb
      obtain ⟨av, hav⟩ : ∃ av : Nat, (if k = 0 then 0 else placeOf F.all cs : Nat) = av := ⟨_, rfl⟩
      rw [hav]
      have HAV := Lib.hid hav
      clear hp ho hbl hb hav
      by_cases hlt : k < cl
      · obtain ⟨c, hc⟩ : ∃ c, cs[k]? = some c := ⟨_, List.getElem?_eq_getElem (by rw [HCL.out]; exact hlt)⟩
        obtain ⟨b0, o0, rfl, hlb, hcell0⟩ := (HC0.out.ext HBL.out).at_.hat k c hc
        have hkl : (k : Int) < (cl : Int) := by omega
        have HNX := Lib.hid (layOn_take (n := m) (b0 := padFor F.all) hc)
        have HLT := Lib.hid hlt
        have HCC := Lib.hid hc
        clear hc hlt hk
        go_wp2_with fail
        refine (Try_wput w2.heap.size m w.heap.size w.heap.size v b c wr HP.out HO.out hsz (Nat.le_refl _) (by omega) (by omega) (by omega)).mono ?_
        rintro e w5 ⟨rfl, v', hp5, ho5, hb5⟩
        obtain ⟨ra5, rc5, rfl, _⟩ := own_cells ho5
        have hpl := putByte_len m b c
        obtain ⟨b5, hb5'⟩ : ∃ b5, putByte m b c = b5 := ⟨_, rfl⟩
        rw [hb5'] at hp5 ho5 hpl
        have HP5 := Lib.hid hp5
        have HO5 := Lib.hid ho5
        have HBL5 := Lib.hid (HBL.out.trans hb5)
        have HB5 := Lib.hid hb5'
        have q5 := hp5.cells
        have l5 := hp5.lt
        have HSZ5 := Lib.hid (Nat.le_trans hsz hb5.size)
        clear hp5 ho5 hb5 q l hcell0
        clear hb5'
        by_cases h0 : k = 0
        · subst h0
          have HPL := Lib.hid (show placeOf F.all cs = m + b5.length - 1 by
            have h := HCC.out
            cases cs with
            | nil => cases h
            | cons c' cs' =>
              have e : c' = c := Option.some.inj h
              subst e
              show F.all.length + (layOn F.all.length (padFor F.all) [c']).length - 1 = _
              rw [HAL.out, ← HB5.out, ← HBB.out]
              rfl)
          have k1 : IntKind.i64.wrap ((m : Int) + (b5.length : Int)) = (m : Int) + (b5.length : Int) := IntWalk.i64_in _ (by omega)
          have hb1 : 1 ≤ b5.length := by rw [← HB5.out]; unfold putByte; simp
          have k2 : IntKind.i64.wrap ((m : Int) + (b5.length : Int) - 1) = ((m + b5.length - 1 : Nat) : Int) := by rw [IntWalk.i64_in _ (by omega)]; omega
          have k3 : (m : Int) + (b5.length : Int) - 1 = ((m + b5.length - 1 : Nat) : Int) := by omega
          clear hb1
          go_wp2_with fail
          go_roundw
          case rel => exact ⟨0 + 1, HLT.out, by go_num, _, by simp only [HPL.out, k3, if_neg (Nat.succ_ne_zero 0)], HP5.out, by rw [HNX.out, HBB.out, HB5.out]; exact HO5.out, HBL5.out, HSZ5.out⟩
          case measure => have := HLT.out; simp [intOf]; omega
        · have h0' : ((k : Int) == 0) = false := by simp; omega
          clear h0
          go_wp2_with fail
          go_roundw
          case rel => exact ⟨k + 1, HLT.out, by go_num, _, by have h := HAV.out; rw [if_neg (by have := h0'; simp at this; omega)] at h; rw [if_neg (by omega), h], HP5.out, by rw [HNX.out, HBB.out, HB5.out]; exact HO5.out, HBL5.out, HSZ5.out⟩
          case measure => have := HLT.out; simp [intOf]; omega
      · obtain rfl : k = cl := by omega
        have HPLZ := Lib.hid (show av = placeOf F.all cs by
          rw [← HAV.out]
          split
          · have : cs = [] := List.length_eq_zero_iff.1 (by rw [HCL.out]; assumption)
            rw [this]; rfl
          · rfl)
        rw [HPLZ.out]
        have HFIN := Lib.hid (show b = pieceOf F.all cs by rw [← HBB.out, List.take_of_length_le (by rw [HCL.out]; omega)]; unfold pieceOf; rw [HAL.out])
        obtain ⟨ra5, rc5, rfl, _⟩ := own_cells HO.out
        have q := HP.out.cells
        clear hlt hk
        go_wp2
        refine bodyPost_ret (v := .tuple #[.slice ra5 b.length rc5, .int .i64 (placeOf F.all cs : Int)]) (by simp [results, Try.results22, go_sem]) rfl ⟨_, rfl, by rw [← HFIN.out]; exact HO.out, HBL.out⟩
end Go.Proofs.Ythpdcbklaapngaa

namespace Go.Dav
set_option linter.unusedVariables false
set_option linter.unusedSimpArgs false
open Go Go.RowKit
/-- What Put answers: a file, a place, an error. -/
def FileD.fput (F : FileD) (p : List UInt8) : FileD × Nat × Int :=
  if F.right = true then (if 1 ≤ p.length ∧ p.length ≤ 4096 then ((F.append (pieceOf F.all (outOf p))).1, if (F.append (pieceOf F.all (outOf p))).2 = 0 then placeOf F.all (outOf p) else 0, (F.append (pieceOf F.all (outOf p))).2) else (F, 0, 2)) else (F, 0, 200)
def GivesFile3 (w : World) (S : Nat → Prop) (F : FileD) (pl : Nat) (err : Int) (e : Ending) (w' : World) : Prop :=
  ∃ fa fl fc la ll lc, e = .returned (.tuple #[.agg #[.slice fa fl fc, .slice la ll lc, .int .i64 F.fuse, .int .i64 F.fault, .bool F.off], .int .i64 (pl : Int), .int .i64 err]) ∧ FileS w' (Or S w) fa fl fc la ll lc F ∧ Below w.heap.size w w'
/-- Bytes, wherever. -/
def AnyRow1 (x : List UInt8) (v : Value) (W : World) : Prop := ∃ a n c, v = .slice a n c ∧ BytesS W (fun _ => True) a n c x
theorem AnyRow1.later {x : List UInt8} : ∀ v W W', AnyRow1 x v W → Below W.heap.size W W' → AnyRow1 x v W' := fun _ _ _ ⟨a, n, c, h1, h2⟩ hb => ⟨a, n, c, h1, h2.ext hb⟩
def PieceTup (x : List UInt8) (pl : Nat) (v : Value) (W : World) : Prop := ∃ a n c, v = .tuple #[.slice a n c, .int .i64 (pl : Int)] ∧ BytesS W (fun _ => True) a n c x
theorem PieceTup.later {x : List UInt8} {pl : Nat} : ∀ v W W', PieceTup x pl v W → Below W.heap.size W W' → PieceTup x pl v W' := fun _ _ _ ⟨a, n, c, h1, h2⟩ hb => ⟨a, n, c, h1, h2.ext hb⟩
theorem pieceOf_len {F : FileD} (cs : List UInt8) (hc : cs.length ≤ 8192) : (pieceOf F.all cs).length ≤ 20000 := by
  have h := layOn_len F.all.length (padFor F.all) cs
  have h2 := padFor_len F.all
  unfold pieceOf; omega
end Go.Dav
namespace Go.Proofs.Ythpdcbklaapngaa
set_option linter.unusedVariables false
set_option linter.unusedSimpArgs false
open Go.RowKit Go.Dav
attribute [local go_sem] Gives ite_val ite_val_true

theorem Try_may (n : Nat) (w : World) (hn : n ≤ 140737488355328) : Calls Try.prog 21 #[.int .i64 (n : Int)] w fun e w' => e = .returned (.bool (decide (1 ≤ n) && decide (n ≤ 4096))) ∧ Below w.heap.size w w' := by
  by_cases h1 : 1 ≤ n
  · have h1' : (1 : Int) ≤ (n : Int) := by omega
    by_cases h2 : n ≤ 4096
    · have h2' : (n : Int) ≤ 4096 := by omega
      have HV := Lib.hid (show (decide (1 ≤ n) && decide (n ≤ 4096)) = true by simp [h1, h2])
      clear h1 h2
      go_enter Try.func21, Try.ntmps21
      go_wp2
      go_ret
      exact ⟨by rw [HV.out]; rfl, Below.refl _ _⟩
    · have h2' : ¬ (n : Int) ≤ 4096 := by omega
      have HV := Lib.hid (show (decide (1 ≤ n) && decide (n ≤ 4096)) = false by simp [h2])
      clear h1 h2
      go_enter Try.func21, Try.ntmps21
      go_wp2
      go_ret
      exact ⟨by rw [HV.out]; first | rfl | (simp; omega), Below.refl _ _⟩
  · have h1' : ¬ (1 : Int) ≤ (n : Int) := by omega
    have HV := Lib.hid (show (decide (1 ≤ n) && decide (n ≤ 4096)) = false by simp [h1])
    clear h1
    go_enter Try.func21, Try.ntmps21
    go_wp2
    go_ret
    exact ⟨by rw [HV.out]; first | rfl | (simp; omega), Below.refl _ _⟩

set_option maxRecDepth 100000 in
set_option maxHeartbeats 8000000 in
theorem Try_fPut (F : FileD) (fa la pa : Option Addr) (fl fc ll lc pl pc : Nat) (p : List UInt8) (w : World) (S T : Nat → Prop) (hF : FileS w S fa fl fc la ll lc F) (hS : ∀ b, S b → b < w.heap.size) (hp : BytesS w T pa pl pc p) :
    Calls Try.prog 12 #[.agg #[.slice fa fl fc, .slice la ll lc, .int .i64 F.fuse, .int .i64 F.fault, .bool F.off], .slice pa pl pc] w (GivesFile3 w S (F.fput p).1 (F.fput p).2.1 (F.fput p).2.2) := by
  have hW : Below w.heap.size w ((w.alloc (.cells [.slice fa fl fc, .slice la ll lc, .int .i64 F.fuse, .int .i64 F.fault, .bool F.off].toArray 27)).alloc (.cells #[.slice none 0 0, .slice none 0 0, .int .i64 0, .int .i64 0, .bool false] 27)) := (by repeat (first | (with_reducible exact Below.refl _ _) | (with_reducible exact Below.refl _ _) | (with_reducible refine Below.setCell ?_ (by first | omega | (simp; done) | (simp; omega)) _) | (with_reducible refine Below.alloc ?_ (by first | omega | (simp; done) | (simp; omega)) _) | (with_reducible refine Below.drew ?_) | (with_reducible refine below_drewN ?_ _)))
  have hf0 := (Blk.new w [.slice fa fl fc, .slice la ll lc, .int .i64 F.fuse, .int .i64 F.fault, .bool F.off] 27).alloc (o := (.cells #[.slice none 0 0, .slice none 0 0, .int .i64 0, .int .i64 0, .bool false] 27))
  have B0 := Blk.new' (w.alloc (.cells [.slice fa fl fc, .slice la ll lc, .int .i64 F.fuse, .int .i64 F.fault, .bool F.off].toArray 27)) [.slice none 0 0, .slice none 0 0, .int .i64 0, .int .i64 0, .bool false] 27 (p := w.heap.size + 1) (by simp)
  have HSS := Lib.hid hS
  have HF := Lib.hid (hF.ext hW)
  have HPB := Lib.hid (hp.ext hW)
  have HFF := Lib.hid hf0
  have HB0 := Lib.hid B0
  have hpf := hp.at_.hfew
  have HPN := Lib.hid hp.at_.hlen
  clear hF hp hW hf0 B0 hS
  have hC := Try_Check F fa la fl fc ll lc _ HF.out.at_
  cases hr : F.right with
  | false =>
    have HV := Lib.hid (show F.fput p = (F, 0, 200) by unfold FileD.fput; rw [if_neg (by rw [hr]; decide)])
    have herr : F.err = 200 := by unfold FileD.err; rw [if_neg (by rw [hr]; decide)]
    rw [herr] at hC
    clear hr herr
    go_enter Try.func12, Try.ntmps12
    go_wp2_with fail
    refine hC.mono ?_; rintro e w1 ⟨rfl, hb1⟩
    have hs1 := hb1.size
    simp only [World.size_alloc] at hs1
    have B1 := HB0.out.ext hb1
    have bel : Below w.heap.size w w1 := (by repeat (first | (with_reducible exact Below.refl _ _) | (with_reducible exact Below.refl _ _) | (with_reducible refine Below.setCell ?_ (by first | omega | (simp; done) | (simp; omega)) _) | (with_reducible refine Below.alloc ?_ (by first | omega | (simp; done) | (simp; omega)) _) | (with_reducible refine Below.drew ?_) | (with_reducible refine below_drewN ?_ _) | (with_reducible refine Below.trans ?_ (hb1.mono (by first | omega | (simp; done) | (simp; omega))))))
    have HR := Lib.hid ((HF.out.ext hb1).mono (T := Or S w1) fun b h => Or.inl h)
    have q0 := (HFF.out.ext hb1).cells
    have l0 := (HFF.out.ext hb1).lt
    clear hC hb1
    have hr2 := ((((B1.set 0 (.slice fa fl fc)).set 1 (.slice la ll lc)).set 2 (.int .i64 (F).fuse)).set 3 (.int .i64 (F).fault)).set 4 (.bool (F).off)
    have c2 := hr2.cells
    have m2 := B1.marks
    have q2 := B1.cells
    have lB := B1.lt
    simp only [List.set_cons_zero, List.set_cons_succ] at c2
    go_wp2
    rw [HV.out]
    refine bodyPost_ret (v := .tuple #[.agg #[.slice fa fl fc, .slice la ll lc, .int .i64 (F).fuse, .int .i64 (F).fault, .bool (F).off], .int .i64 ((0 : Nat) : Int), .int .i64 (200)]) (by simp [results, Try.results12, go_sem, c2]) rfl ⟨fa, fl, fc, la, ll, lc, rfl, ?_, ?_⟩
    · refine ((HR.out).same (Only.size (p := w.heap.size + 1) (by repeat (first | (with_reducible exact Only.refl _ _) | (with_reducible refine Only.set ?_ _ _) | (with_reducible refine Only.alloc ?_ _) | (with_reducible refine Only.drew ?_)))) (fun b h hlt => Only.block (p := w.heap.size + 1) (by repeat (first | (with_reducible exact Only.refl _ _) | (with_reducible refine Only.set ?_ _ _) | (with_reducible refine Only.alloc ?_ _) | (with_reducible refine Only.drew ?_))) b hlt ?_)).mono (T := Or S w) (fun b h => ?_)
      · rcases h with h | h
        · have := HSS.out b h; omega
        · (try simp at h); omega
      · rcases h with h | h
        · exact .inl h
        · exact .inr (by (try simp at h); omega)
    · exact (by repeat (first | (with_reducible exact Below.refl _ _) | (with_reducible exact Below.refl _ _) | (with_reducible refine Below.setCell ?_ (by first | omega | (simp; done) | (simp; omega)) _) | (with_reducible refine Below.alloc ?_ (by first | omega | (simp; done) | (simp; omega)) _) | (with_reducible refine Below.drew ?_) | (with_reducible refine below_drewN ?_ _) | (with_reducible refine Below.trans ?_ (bel.mono (by first | omega | (simp; done) | (simp; omega))))))
  | true =>
    have herr : F.err = 0 := by unfold FileD.err; rw [if_pos hr]
    rw [herr] at hC
    clear herr
    go_enter Try.func12, Try.ntmps12
    go_wp2_with fail
    refine hC.mono ?_; rintro e w1 ⟨rfl, hb1⟩
    have hs1 := hb1.size
    simp only [World.size_alloc] at hs1
    have HFF1 := Lib.hid (HFF.out.ext hb1)
    have HB1 := Lib.hid (HB0.out.ext hb1)
    have HF1 := Lib.hid (HF.out.ext hb1)
    have HP1 := Lib.hid (HPB.out.ext hb1)
    have BEL1 := Lib.hid (show Below w.heap.size w w1 from (by repeat (first | (with_reducible exact Below.refl _ _) | (with_reducible exact Below.refl _ _) | (with_reducible refine Below.setCell ?_ (by first | omega | (simp; done) | (simp; omega)) _) | (with_reducible refine Below.alloc ?_ (by first | omega | (simp; done) | (simp; omega)) _) | (with_reducible refine Below.drew ?_) | (with_reducible refine below_drewN ?_ _) | (with_reducible refine Below.trans ?_ (hb1.mono (by first | omega | (simp; done) | (simp; omega)))))))
    clear hC hb1 HFF HB0 HF HPB
    go_wp2_with fail
    refine (Try_may pl w1 hpf).mono ?_; rintro e w2 ⟨rfl, hb2⟩
    have hs2 := hb2.size
    have HFF2 := Lib.hid (HFF1.out.ext hb2)
    have HB2 := Lib.hid (HB1.out.ext hb2)
    have HF2 := Lib.hid (HF1.out.ext hb2)
    have HP2 := Lib.hid (HP1.out.ext hb2)
    have BEL2 := Lib.hid (BEL1.out.trans (hb2.mono BEL1.out.size))
    have q0 := HFF2.out.cells
    have l0 := HFF2.out.lt
    clear hb2 HFF1 HB1 HF1 HP1 BEL1
    by_cases hm : 1 ≤ pl ∧ pl ≤ 4096
    · rw [show (decide (1 ≤ pl) && decide (pl ≤ 4096)) = true by simp [hm]]
      obtain ⟨x, hx⟩ : ∃ x, pieceOf F.all (outOf p) = x := ⟨_, rfl⟩
      obtain ⟨plc, hplc⟩ : ∃ z, placeOf F.all (outOf p) = z := ⟨_, rfl⟩
      obtain ⟨F7, e7, hV⟩ : ∃ F7 e7, F.append x = (F7, e7) := ⟨_, _, rfl⟩
      have hm2 : pl ≤ 4096 := hm.2
      have hol : (outOf p).length = 6 + pl := by rw [outOf_len, HPN.out]
      have HV0 := Lib.hid (show F.fput p = (F7, if e7 = 0 then plc else 0, e7) by unfold FileD.fput; rw [if_pos hr, if_pos (by rw [HPN.out]; exact hm), hx, hplc, hV])
      have HOUT := Lib.hid (fun W T (h : BytesS W T pa pl pc p) => Try_out pa pl pc p W T h (by omega))
      have HPC := Lib.hid (fun W (T : Nat → Prop) ca cl cc (h : FileS W S fa fl fc la ll lc F) (h2 : ∀ b, S b → b < W.heap.size) (h3 : BytesS W T ca cl cc (outOf p)) (h4 : ∀ b, T b → b < W.heap.size) => Try_piece F fa la ca fl fc ll lc cl cc (outOf p) W S T h h2 hr h3 h4 (by rw [← h3.at_.hlen, hol]; omega))
      have HAPP := Lib.hid (fun W (T : Nat → Prop) ba bl bc (h : FileS W S fa fl fc la ll lc F) (h2 : ∀ b, S b → b < W.heap.size) (h3 : BytesS W T ba bl bc x) => Try_Append F fa la ba fl fc ll lc bl bc x W S T h h2 h3)
      have HX := Lib.hid hx
      have HPLC := Lib.hid hplc
      have HAV := Lib.hid hV
      have HOL := Lib.hid hol
      have HXL := Lib.hid (show x.length ≤ 20000 by rw [← hx]; exact pieceOf_len _ (by rw [hol]; omega))
      clear hr hm hx hplc hV hol
      go_wp2_with fail
      refine' wp_region_seq [.inl _, .inl _, .inr (AnyRow1 (outOf p)), .inr (PieceTup x plc), .inr (PieceTup x plc), .inr (AnyRow1 x), .inl _, .inr (AnyRow1 x), .inl _] (by kernel_rfl) (by kernel_rfl) ?main1
      case main1 =>
        refine wpParts_det (by rfl) (fun W hE hN => ?_) ?_
        · have hc := fun b o h => hE.cell (p := ⟨b, o, none⟩) h
          go_simp; refine ⟨Below.refl _ _, ?_⟩; rfl
        simp only [Act.put, List.setIfInBounds_toArray, List.set_cons_zero, List.set_cons_succ]
        refine wpParts_det (by rfl) (fun W hE hN => ?_) ?_
        · go_simp; refine ⟨Below.refl _ _, ?_⟩; rfl
        simp only [Act.put, List.setIfInBounds_toArray, List.set_cons_zero, List.set_cons_succ]
        refine wpParts_any rfl (AnyRow1.later) (by rfl) (fun W hE hN => ?_) (fun u2 => ?_)
        · go_simp; refine ⟨Below.refl _ _, ?_⟩; refine (HOUT.out W T (HP2.out.ext hE)).mono ?_; rintro e w' ⟨v, rfl, ho, hb⟩; obtain ⟨ra, rc, rfl, hB⟩ := own_bytes ho (by omega); exact ⟨_, rfl, hb, ra, _, rc, rfl, hB.mono fun _ _ => trivial⟩
        simp only [Act.put, List.setIfInBounds_toArray, List.set_cons_zero, List.set_cons_succ]
        refine wpParts_any rfl (PieceTup.later) (by rfl) (fun W hE hN => ?_) (fun u3 => ?_)
        · simp [near, Oper.looksAt, Op.operands, Call.operands] at hN; obtain ⟨ca, cl, cc, rfl, hB⟩ := hN; go_simp; refine ⟨Below.refl _ _, ?_⟩; have hA := HPC.out W _ ca cl cc (HF2.out.ext hE) (fun b h => by have := HSS.out b h; have := hE.size; omega) hB.at_.s (fun b h => h); rw [HX.out, HPLC.out] at hA; refine hA.mono ?_; rintro e w' ⟨v, rfl, ho, hb⟩; obtain ⟨ra, rc, rfl, hB2⟩ := own_bytes ho (by have := HXL.out; omega); exact ⟨_, rfl, hb, ra, _, rc, rfl, hB2.mono fun _ _ => trivial⟩
        simp only [Act.put, List.setIfInBounds_toArray, List.set_cons_zero, List.set_cons_succ]
        refine wpParts_any rfl (PieceTup.later) (by rfl) (fun W hE hN => ?_) (fun u4 => ?_)
        · simp [near, Oper.looksAt, Op.operands] at hN; go_simp; exact Below.refl _ _
        simp only [Act.put, List.setIfInBounds_toArray, List.set_cons_zero, List.set_cons_succ]
        refine wpParts_any rfl (AnyRow1.later) (by rfl) (fun W hE hN => ?_) (fun u5 => ?_)
        · simp [near, Oper.looksAt, Op.operands] at hN; obtain ⟨ra, rl, rc, rfl, hR⟩ := hN; go_simp; exact ⟨Below.refl _ _, ra, rl, rc, rfl, hR⟩
        simp only [Act.put, List.setIfInBounds_toArray, List.set_cons_zero, List.set_cons_succ]
        refine wpParts_det (by rfl) (fun W hE hN => ?_) ?_
        · simp [near, Oper.looksAt, Op.operands] at hN; obtain ⟨ra, rl, rc, rfl, hR⟩ := hN; go_simp; refine ⟨Below.refl _ _, ?_⟩; rfl
        simp only [Act.put, List.setIfInBounds_toArray, List.set_cons_zero, List.set_cons_succ]
        refine wpParts_any rfl (AnyRow1.later) (by rfl) (fun W hE hN => ?_) (fun u7 => ?_)
        · simp [near, Oper.looksAt, Op.operands] at hN; go_simp; exact Below.refl _ _
        simp only [Act.put, List.setIfInBounds_toArray, List.set_cons_zero, List.set_cons_succ]
        refine wpParts_det (by rfl) (fun W hE hN => ?_) ?_
        · go_simp; refine ⟨Below.refl _ _, ?_⟩; rfl
        simp only [Act.put, List.setIfInBounds_toArray, List.set_cons_zero, List.set_cons_succ]
        refine wpParts_end fun W6 hE6 hG6 => ?_
        have hcW6 := fun b o h => hE6.cell (p := ⟨b, o, none⟩) h
        have hfW6 := fun b o h => hE6.frozen (p := ⟨b, o, none⟩) h
        obtain ⟨⟨ba, bl, bc, rfl, hB⟩, _⟩ := hG6
        have HFF6 := Lib.hid (HFF2.out.ext hE6)
        have HB6 := Lib.hid (HB2.out.ext hE6)
        have HF6 := Lib.hid (HF2.out.ext hE6)
        have BEL6 := Lib.hid (BEL2.out.trans (hE6.mono BEL2.out.size))
        have HBX := Lib.hid hB
        have hs6 := hE6.size
        have q1 := HFF6.out.cells
        have l1 := HFF6.out.lt
        clear hB hE6 hcW6 hfW6 q0 l0 HFF2 HB2 HF2 BEL2
        go_wp2_with fail
        have hA := HAPP.out W6 _ ba bl bc HF6.out (fun b h => by have := HSS.out b h; omega) HBX.out
        rw [HAV.out] at hA
        refine hA.mono ?_; rintro e w7 ⟨ga, gl, gc, ma, ml, mc, rfl, hR, hb7⟩
        clear hA q1 l1
        have hs7 := hb7.size
        have HFF7 := Lib.hid (HFF6.out.ext hb7)
        have HB7 := Lib.hid (HB6.out.ext hb7)
        have BEL7 := Lib.hid (BEL6.out.trans (hb7.mono BEL6.out.size))
        have HR7 := Lib.hid hR
        have q1 := HFF7.out.cells
        have m1 := HFF7.out.marks
        have l1 := HFF7.out.lt
        clear hb7 hR HFF6 HB6 HF6 BEL6 HBX
        by_cases he : e7 = 0
        · have he' : (e7 != 0) = false := by simp [he]
          have HV := Lib.hid (show F.fput p = (F7, plc, e7) by rw [HV0.out, if_pos he])
          subst he
          go_upto_region 10 with fail
          obtain ⟨W8, hW8⟩ : ∃ W8, (((((w7.setCell ⟨w.heap.size, 0, none⟩ (.slice ga gl gc)).setCell ⟨w.heap.size, 1, none⟩ (.slice ma ml mc)).setCell ⟨w.heap.size, 2, none⟩ (.int .i64 F7.fuse)).setCell ⟨w.heap.size, 3, none⟩ (.int .i64 F7.fault)).setCell ⟨w.heap.size, 4, none⟩ (.bool F7.off)) = W8 := ⟨_, rfl⟩
          have o8 : Only w.heap.size w7 W8 := by rw [← hW8]; exact (by repeat (first | (with_reducible exact Only.refl _ _) | (with_reducible refine Only.set ?_ _ _) | (with_reducible refine Only.alloc ?_ _) | (with_reducible refine Only.drew ?_)))
          have HFX := Lib.hid (show Blk W8 w.heap.size [.slice ga gl gc, .slice ma ml mc, .int .i64 F7.fuse, .int .i64 F7.fault, .bool F7.off] 27 by rw [← hW8]; exact ((((HFF7.out.set 0 _).set 1 _).set 2 _).set 3 _).set 4 _)
          have B1 := HB7.out.only o8 (by omega)
          have bel : Below w.heap.size w W8 := below_only BEL7.out o8 BEL7.out.size (Nat.le_refl _)
          have HR := Lib.hid (HR7.out.same o8.size (fun b h hlt => o8.block b hlt (by
            rcases h with h | h
            · have := HSS.out b h; omega
            · omega)))
          have hs8 := o8.size
          rw [hW8]
          clear hW8 o8 q1 m1 l1 HR7 HB7 BEL7
          have q1 := HFX.out.cells
          have l1 := HFX.out.lt
          have hr2 := ((((B1.set 0 (.slice ga gl gc)).set 1 (.slice ma ml mc)).set 2 (.int .i64 (F7).fuse)).set 3 (.int .i64 (F7).fault)).set 4 (.bool (F7).off)
          have c2 := hr2.cells
          have m2 := B1.marks
          have q2 := B1.cells
          have lB := B1.lt
          simp only [List.set_cons_zero, List.set_cons_succ] at c2
          go_wp2
          rw [HV.out]
          refine bodyPost_ret (v := .tuple #[.agg #[.slice ga gl gc, .slice ma ml mc, .int .i64 (F7).fuse, .int .i64 (F7).fault, .bool (F7).off], .int .i64 ((plc : Nat) : Int), .int .i64 (0)]) (by simp [results, Try.results12, go_sem, c2]) rfl ⟨ga, gl, gc, ma, ml, mc, rfl, ?_, ?_⟩
          · refine ((HR.out).same (Only.size (p := w.heap.size + 1) (by repeat (first | (with_reducible exact Only.refl _ _) | (with_reducible refine Only.set ?_ _ _) | (with_reducible refine Only.alloc ?_ _) | (with_reducible refine Only.drew ?_)))) (fun b h hlt => Only.block (p := w.heap.size + 1) (by repeat (first | (with_reducible exact Only.refl _ _) | (with_reducible refine Only.set ?_ _ _) | (with_reducible refine Only.alloc ?_ _) | (with_reducible refine Only.drew ?_))) b hlt ?_)).mono (T := Or S w) (fun b h => ?_)
            · rcases h with h | h
              · have := HSS.out b h; omega
              · (try simp at h); omega
            · rcases h with h | h
              · exact .inl h
              · exact .inr (by (try simp at h); omega)
          · exact (by repeat (first | (with_reducible exact Below.refl _ _) | (with_reducible exact Below.refl _ _) | (with_reducible refine Below.setCell ?_ (by first | omega | (simp; done) | (simp; omega)) _) | (with_reducible refine Below.alloc ?_ (by first | omega | (simp; done) | (simp; omega)) _) | (with_reducible refine Below.drew ?_) | (with_reducible refine below_drewN ?_ _) | (with_reducible refine Below.trans ?_ (bel.mono (by first | omega | (simp; done) | (simp; omega))))))
        · have he' : (e7 != 0) = true := by simp [he]
          have HV := Lib.hid (show F.fput p = (F7, 0, e7) by rw [HV0.out, if_neg he])
          clear he
          go_upto_region 9 with fail
          obtain ⟨W8, hW8⟩ : ∃ W8, (((((w7.setCell ⟨w.heap.size, 0, none⟩ (.slice ga gl gc)).setCell ⟨w.heap.size, 1, none⟩ (.slice ma ml mc)).setCell ⟨w.heap.size, 2, none⟩ (.int .i64 F7.fuse)).setCell ⟨w.heap.size, 3, none⟩ (.int .i64 F7.fault)).setCell ⟨w.heap.size, 4, none⟩ (.bool F7.off)) = W8 := ⟨_, rfl⟩
          have o8 : Only w.heap.size w7 W8 := by rw [← hW8]; exact (by repeat (first | (with_reducible exact Only.refl _ _) | (with_reducible refine Only.set ?_ _ _) | (with_reducible refine Only.alloc ?_ _) | (with_reducible refine Only.drew ?_)))
          have HFX := Lib.hid (show Blk W8 w.heap.size [.slice ga gl gc, .slice ma ml mc, .int .i64 F7.fuse, .int .i64 F7.fault, .bool F7.off] 27 by rw [← hW8]; exact ((((HFF7.out.set 0 _).set 1 _).set 2 _).set 3 _).set 4 _)
          have B1 := HB7.out.only o8 (by omega)
          have bel : Below w.heap.size w W8 := below_only BEL7.out o8 BEL7.out.size (Nat.le_refl _)
          have HR := Lib.hid (HR7.out.same o8.size (fun b h hlt => o8.block b hlt (by
            rcases h with h | h
            · have := HSS.out b h; omega
            · omega)))
          have hs8 := o8.size
          rw [hW8]
          clear hW8 o8 q1 m1 l1 HR7 HB7 BEL7
          have q1 := HFX.out.cells
          have l1 := HFX.out.lt
          have hr2 := ((((B1.set 0 (.slice ga gl gc)).set 1 (.slice ma ml mc)).set 2 (.int .i64 (F7).fuse)).set 3 (.int .i64 (F7).fault)).set 4 (.bool (F7).off)
          have c2 := hr2.cells
          have m2 := B1.marks
          have q2 := B1.cells
          have lB := B1.lt
          simp only [List.set_cons_zero, List.set_cons_succ] at c2
          go_wp2
          rw [HV.out]
          refine bodyPost_ret (v := .tuple #[.agg #[.slice ga gl gc, .slice ma ml mc, .int .i64 (F7).fuse, .int .i64 (F7).fault, .bool (F7).off], .int .i64 ((0 : Nat) : Int), .int .i64 (e7)]) (by simp [results, Try.results12, go_sem, c2]) rfl ⟨ga, gl, gc, ma, ml, mc, rfl, ?_, ?_⟩
          · refine ((HR.out).same (Only.size (p := w.heap.size + 1) (by repeat (first | (with_reducible exact Only.refl _ _) | (with_reducible refine Only.set ?_ _ _) | (with_reducible refine Only.alloc ?_ _) | (with_reducible refine Only.drew ?_)))) (fun b h hlt => Only.block (p := w.heap.size + 1) (by repeat (first | (with_reducible exact Only.refl _ _) | (with_reducible refine Only.set ?_ _ _) | (with_reducible refine Only.alloc ?_ _) | (with_reducible refine Only.drew ?_))) b hlt ?_)).mono (T := Or S w) (fun b h => ?_)
            · rcases h with h | h
              · have := HSS.out b h; omega
              · (try simp at h); omega
            · rcases h with h | h
              · exact .inl h
              · exact .inr (by (try simp at h); omega)
          · exact (by repeat (first | (with_reducible exact Below.refl _ _) | (with_reducible exact Below.refl _ _) | (with_reducible refine Below.setCell ?_ (by first | omega | (simp; done) | (simp; omega)) _) | (with_reducible refine Below.alloc ?_ (by first | omega | (simp; done) | (simp; omega)) _) | (with_reducible refine Below.drew ?_) | (with_reducible refine below_drewN ?_ _) | (with_reducible refine Below.trans ?_ (bel.mono (by first | omega | (simp; done) | (simp; omega))))))
    · rw [show (decide (1 ≤ pl) && decide (pl ≤ 4096)) = false by simp; omega]
      have HV := Lib.hid (show F.fput p = (F, 0, 2) by unfold FileD.fput; rw [if_pos hr, if_neg (by rw [HPN.out]; exact hm)])
      have B1 := HB2.out
      have bel := BEL2.out
      have HR := Lib.hid (HF2.out.mono (T := Or S w2) fun b h => Or.inl h)
      clear hr hm
      have hr2 := ((((B1.set 0 (.slice fa fl fc)).set 1 (.slice la ll lc)).set 2 (.int .i64 (F).fuse)).set 3 (.int .i64 (F).fault)).set 4 (.bool (F).off)
      have c2 := hr2.cells
      have m2 := B1.marks
      have q2 := B1.cells
      have lB := B1.lt
      simp only [List.set_cons_zero, List.set_cons_succ] at c2
      go_wp2
      rw [HV.out]
      refine bodyPost_ret (v := .tuple #[.agg #[.slice fa fl fc, .slice la ll lc, .int .i64 (F).fuse, .int .i64 (F).fault, .bool (F).off], .int .i64 ((0 : Nat) : Int), .int .i64 (2)]) (by simp [results, Try.results12, go_sem, c2]) rfl ⟨fa, fl, fc, la, ll, lc, rfl, ?_, ?_⟩
      · refine ((HR.out).same (Only.size (p := w.heap.size + 1) (by repeat (first | (with_reducible exact Only.refl _ _) | (with_reducible refine Only.set ?_ _ _) | (with_reducible refine Only.alloc ?_ _) | (with_reducible refine Only.drew ?_)))) (fun b h hlt => Only.block (p := w.heap.size + 1) (by repeat (first | (with_reducible exact Only.refl _ _) | (with_reducible refine Only.set ?_ _ _) | (with_reducible refine Only.alloc ?_ _) | (with_reducible refine Only.drew ?_))) b hlt ?_)).mono (T := Or S w) (fun b h => ?_)
        · rcases h with h | h
          · have := HSS.out b h; omega
          · (try simp at h); omega
        · rcases h with h | h
          · exact .inl h
          · exact .inr (by (try simp at h); omega)
      · exact (by repeat (first | (with_reducible exact Below.refl _ _) | (with_reducible exact Below.refl _ _) | (with_reducible refine Below.setCell ?_ (by first | omega | (simp; done) | (simp; omega)) _) | (with_reducible refine Below.alloc ?_ (by first | omega | (simp; done) | (simp; omega)) _) | (with_reducible refine Below.drew ?_) | (with_reducible refine below_drewN ?_ _) | (with_reducible refine Below.trans ?_ (bel.mono (by first | omega | (simp; done) | (simp; omega))))))
end Go.Proofs.Ythpdcbklaapngaa

namespace Go.Dav
set_option linter.unusedVariables false
set_option linter.unusedSimpArgs false
open Go Go.RowKit
/-- What is laid behind so many bytes. -/
def bodyAt : Nat → List UInt8 → List UInt8
  | _, [] => []
  | n, c :: cs => if n % 64 = 0 then 0 :: c :: bodyAt (n + 2) cs else c :: bodyAt (n + 1) cs
theorem bodyAt_cons (n : Nat) (c : UInt8) (cs : List UInt8) : bodyAt n (c :: cs) = if n % 64 = 0 then 0 :: c :: bodyAt (n + 2) cs else c :: bodyAt (n + 1) cs := rfl
theorem layOn_body (n : Nat) : ∀ (cs b0 : List UInt8), layOn n b0 cs = b0 ++ bodyAt (n + b0.length) cs := fun cs => by
  induction cs with
  | nil => intro b0; simp [layOn, bodyAt]
  | cons c cs ih =>
    intro b0
    show layOn n (putByte n b0 c) cs = _
    rw [ih, bodyAt_cons]
    unfold putByte padByte
    by_cases h : (n + b0.length) % 64 = 0
    · rw [if_pos h, if_pos h]; simp [Nat.add_assoc]
    · rw [if_neg h, if_neg h]; simp [Nat.add_assoc]
theorem piece_body (A cs : List UInt8) : A ++ pieceOf A cs = (A ++ padFor A) ++ bodyAt (A ++ padFor A).length cs := by
  unfold pieceOf
  rw [layOn_body, ← List.append_assoc, List.length_append]
theorem outOf_ne (b : List UInt8) : outOf b ≠ [] := fun h => by have := outOf_len b; rw [h, List.length_nil] at this; omega
theorem pieceOf_ne (A b : List UInt8) : pieceOf A (outOf b) ≠ [] := fun h => by
  have h2 := layOn_body A.length (outOf b) (padFor A)
  unfold pieceOf at h
  rw [h] at h2
  have h3 := congrArg List.length h2
  have h4 : bodyAt (A.length + (padFor A).length) (outOf b) ≠ [] := by
    cases hc : outOf b with
    | nil => exact absurd hc (outOf_ne b)
    | cons c cs => unfold bodyAt; split <;> simp
  rw [List.length_append] at h3
  have h5 := List.length_pos_iff.2 h4
  simp at h3; omega
theorem body_mark : ∀ (cs : List UInt8) (n j : Nat), (n + j) % 64 = 0 → j < (bodyAt n cs).length → (bodyAt n cs)[j]? = some 0 := fun cs => by
  induction cs with
  | nil => intro n j _ h; exact absurd h (Nat.not_lt_zero _)
  | cons c cs ih =>
    intro n j h hl
    rw [bodyAt_cons] at hl ⊢
    by_cases h0 : n % 64 = 0
    · rw [if_pos h0] at hl ⊢
      match j, h, hl with
      | 0, _, _ => rfl
      | 1, h, _ => omega
      | j + 2, h, hl => exact ih (n + 2) j (by omega) (by simpa using hl)
    · rw [if_neg h0] at hl ⊢
      match j, h, hl with
      | 0, h, _ => omega
      | j + 1, h, hl => exact ih (n + 1) j (by omega) (by simpa using hl)
/-- Every mark within what is laid is 0. -/
theorem laid_mark (A cs : List UInt8) {i : Nat} (h1 : A.length ≤ i) (h2 : i % 64 = 0) (h3 : i < (A ++ pieceOf A cs).length) : (A ++ pieceOf A cs)[i]? = some 0 := by
  rw [piece_body] at h3 ⊢
  by_cases h : i < (A ++ padFor A).length
  · rw [List.getElem?_append_left h, List.getElem?_append_right h1]
    rw [List.length_append] at h
    unfold padFor at h ⊢
    split
    · rename_i hm
      rw [if_pos hm, List.length_replicate] at h
      rw [List.getElem?_replicate, if_pos (by omega)]
    · rename_i hm
      rw [if_neg hm] at h
      simp at h; omega
  · rw [List.getElem?_append_right (by omega)]
    rw [@List.length_append _ (A ++ padFor A)] at h3
    exact body_mark cs _ _ (by rw [show (A ++ padFor A).length + (i - (A ++ padFor A).length) = i by omega]; exact h2) (by omega)
end Go.Dav
