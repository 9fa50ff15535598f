/-
  Layer 10: 'runs', which tells a file's bytes run by run: its value, and the contract of what it hands back.
-/
import Derived.RangeFuncNested
import Derived.RangeFuncBound
import Derived.RangeFuncCalls
import Derived.RangeFuncLeaves
import Derived.RangeFuncBox
import Derived.Shelf.Abstract
import Derived.Shelf.RegionOpen
import Derived.WalkKit
import Derived.OwnWalkIn
import Derived.TacticsInMore
import Derived.LoopNIn
import Derived.LoopIn
import Derived.Test.YtafigbomcgncnaaFilL
namespace Go.Dav
set_option linter.unusedVariables false
set_option linter.unusedSimpArgs false
open Go Go.RowKit

/-- A run of bytes, and the place at which it begins. -/
structure Run where
  at_ : Int
  a : Option Addr
  len : Nat
  cap : Nat
  l : List UInt8
def RunOk (W : World) (S : Nat → Prop) (r : Run) : Prop := BytesS W S r.a r.len r.cap r.l ∧ r.len ≤ 524288 ∧ 0 ≤ r.at_ ∧ r.at_ ≤ 524288 ∧ (r.len = 0 → r.at_ = 0)
abbrev RunT (W : World) (S : Nat → Prop) : Type := { r : Run // RunOk W S r }
abbrev RunT.encs {W : World} {S : Nat → Prop} (x : RunT W S) : Array Value := #[.int .i64 x.1.at_, .slice x.1.a x.1.len x.1.cap]
def runAt (F : FileD) : Nat → Nat
  | 0 => 0
  | j + 1 => F.firm.length + sumTo F.loose j
/-- What the first k rounds have told. -/
def RunsTo {W : World} {S : Nat → Prop} (F : FileD) (k : Nat) (xs : List (RunT W S)) : Prop := xs.map (fun x => x.1.l) = (F.firm :: F.loose).take k ∧ ∀ (j : Nat) x, xs[j]? = some x → x.1.at_ = (runAt F j : Int)
theorem RunsTo.nil_ {W : World} {S : Nat → Prop} (F : FileD) : RunsTo (W := W) (S := S) F 0 [] := ⟨rfl, fun j x h => by simp at h⟩
theorem RunsTo.snoc {W : World} {S : Nat → Prop} {F : FileD} {k : Nat} {xs : List (RunT W S)} (h : RunsTo F k xs) {x : RunT W S} (hx : (F.firm :: F.loose)[k]? = some x.1.l) (ha : x.1.at_ = (runAt F k : Int)) : RunsTo F (k + 1) (xs ++ [x]) := by
  have hlen : xs.length = k := by
    have h1 := congrArg List.length h.1
    obtain ⟨h2, _⟩ := List.getElem?_eq_some_iff.1 hx
    rw [List.length_map, List.length_take] at h1
    omega
  refine ⟨?_, fun j y hy => ?_⟩
  · rw [List.map_append, h.1, List.take_add_one, hx]; rfl
  · by_cases hj : j < xs.length
    · rw [List.getElem?_append_left hj] at hy; exact h.2 j y hy
    · rw [List.getElem?_append_right (by omega)] at hy
      have hj2 : j - xs.length = 0 := by
        obtain ⟨h2, _⟩ := List.getElem?_eq_some_iff.1 hy
        simp at h2; omega
      rw [hj2] at hy
      cases hy
      have : j = k := by omega
      rw [this]; exact ha
theorem RunsTo.length {W : World} {S : Nat → Prop} {F : FileD} {k : Nat} {xs : List (RunT W S)} (h : RunsTo F k xs) (hk : k ≤ F.loose.length + 1) : xs.length = k := by
  have h1 := congrArg List.length h.1
  rw [List.length_map, List.length_take, List.length_cons] at h1
  omega

/-- What a round keeps: what lay below n, and block B. -/
def KpR (n B : Nat) (W W' : World) : Prop := Below n W W' ∧ W'.heap[B]? = W.heap[B]?
theorem KpR.refl (n B : Nat) (W : World) : KpR n B W W := ⟨Below.refl _ _, rfl⟩
theorem KpR.trans {n B : Nat} {A C D : World} (h : KpR n B A C) (k : KpR n B C D) : KpR n B A D := ⟨h.1.trans k.1, k.2.trans h.2⟩
theorem KpR.t {n B : Nat} : ∀ {A C D : World}, KpR n B A C → KpR n B C D → KpR n B A D := fun h k => h.trans k
theorem KpR.b {n B : Nat} {w : World} (h : n ≤ w.heap.size) (hB : B < w.heap.size) : ∀ (W : World) (l : Nat) (o o' : Obj), w.heap.size ≤ l → W.heap[l]? = some o → o.isCells = false → o.isWalk = false → KpR n B W (W.putObj l o') := fun W l o o' h1 h2 h3 h4 =>
  ⟨belowK_b h W l o o' h1 h2 h3 h4, (grownBy_putObj' W l o').block B (by
    obtain ⟨h5, _⟩ := Array.getElem?_eq_some_iff.1 h2
    omega) (by intro e; cases e; omega)⟩
theorem KpR.blk {n B : Nat} {W W' : World} (h : KpR n B W W') {vs : List Value} {t : TypeId} (hb : Blk W B vs t) : Blk W' B vs t := h.2.trans hb
end Go.Dav
namespace Go.Proofs.Ytafigbomcgncnaa
set_option linter.unusedVariables false
set_option linter.unusedSimpArgs false
open Go.RowKit Go.Dav Go.Shelf
attribute [local go_sem] Gives ite_val ite_val_true Oper.semAt_some

set_option maxHeartbeats 4000000 in
theorem Try_runs (F : FileD) (fa la : Option Addr) (fl fc ll lc : Nat) (w : World) :
    Calls Try.prog 54 #[.agg #[.slice fa fl fc, .slice la ll lc, .int .i64 F.fuse, .int .i64 F.fault, .bool F.off]] w fun e w' => e = .returned (.func (.func 59) #[] #[.pointer (some ⟨w.heap.size, 0, none⟩)]) ∧ w' = w.alloc (.cells [.slice fa fl fc, .slice la ll lc, .int .i64 F.fuse, .int .i64 F.fault, .bool F.off].toArray 25) := by
  go_enter Try.func54, Try.ntmps54
  go_wp2
  go_ret
  exact ⟨rfl, rfl⟩

theorem runAt_two {F : FileD} {k : Nat} {p : List UInt8} (h : F.loose[k]? = some p) : runAt F (k + 1 + 1) = runAt F (k + 1) + p.length := by
  show F.firm.length + sumTo F.loose (k + 1) = F.firm.length + sumTo F.loose k + p.length
  rw [sumTo_succ h]; omega
theorem runAt_le (F : FileD) (k : Nat) : runAt F k ≤ F.many := by
  cases k with
  | zero => exact Nat.zero_le _
  | succ k =>
    show F.firm.length + sumTo F.loose k ≤ F.many
    unfold FileD.many; have := sumTo_mono F.loose k; omega
theorem loose_le {F : FileD} {k : Nat} {p : List UInt8} (h : F.loose[k]? = some p) : p.length ≤ F.many := by
  have h1 := sumTo_succ h
  have h2 := sumTo_mono F.loose (k + 1)
  unfold FileD.many; omega

set_option maxRecDepth 100000 in
set_option maxHeartbeats 4000000 in
theorem Try_runs1 (F : FileD) (fa la : Option Addr) (fl fc ll lc : Nat) (w : World) (S : Nat → Prop) (n n₀ B : Nat) (hn : 1 ≤ n) (hF : FileS w S fa fl fc la ll lc F) (hr : F.right = true) (hS : ∀ b, S b → b < n₀) (h0 : n₀ ≤ w.heap.size) (hB : Blk w B [.slice fa fl fc, .slice la ll lc, .int .i64 F.fuse, .int .i64 F.fault, .bool F.off] 25) :
    SeqStopsK Fence.wide n Try.prog 59 #[.pointer (some ⟨B, 0, none⟩)] (RunT.encs (W := w) (S := S)) (KpR n₀ B) (RunsTo F (F.loose.length + 1)) (fun pre => ∃ k, RunsTo F k pre) (F.loose.length + 1) w := fun l J Jx W hW _ _ hY hJ0 => by
  have hm := (FileD.right_spec.1 hr).2.2.2.2
  have hB1 := hB.ext hW
  have q1 := hB1.cells
  have l1 := hB1.lt
  have e1 := hF.loose.hlen
  have e2 := hF.firm.at_.hlen
  have e3 := hF.loose.hfew
  have hfm : F.firm.length ≤ F.many := by unfold FileD.many; omega
  obtain ⟨x0, hx0⟩ : ∃ x : RunT w S, x.1 = ⟨0, fa, fl, fc, F.firm⟩ := ⟨⟨⟨0, fa, fl, fc, F.firm⟩, hF.firm, by show fl ≤ _; omega, by show (0 : Int) ≤ 0; omega, by show (0 : Int) ≤ _; omega, fun _ => rfl⟩, rfl⟩
  have hJ1 : RunsTo F 1 ([] ++ [x0]) := (RunsTo.nil_ F).snoc (by rw [hx0]; rfl) (by rw [hx0]; rfl)
  obtain ⟨f1, t1, a1, b1, hy1, hR1⟩ := hY [] x0 W hJ0 (by simp)
  dsimp only [RunT.encs] at hy1
  rw [hx0] at hy1
  dsimp only at hy1
  have HFU := Lib.hid (FileD.right_spec.1 hr).1
  have HJ1 := Lib.hid hJ1
  have HB := Lib.hid hB1
  have HF := Lib.hid hF
  have HM := Lib.hid hm
  have HY := Lib.hid hY
  have HW := Lib.hid hW
  have HR1 := Lib.hid hR1
  have HS := Lib.hid hS
  have H1 := Lib.hid e1
  have H2 := Lib.hid e2
  have f2 : (fl : Int) ≤ 524288 := by omega
  have HX0 := Lib.hid hx0
  clear hB hB1 hF hW hY hJ1 hR1 hr hS e1 e2 hfm hx0 hm
  refine callsIn_of_wp Try.func59 rfl trivial ?_ rfl
  simp only [Try.ntmps59, List.size_toArray, List.length_cons, List.length_nil, Nat.reduceAdd, Nat.reduceSub, Array.replicate_succ, Array.replicate_zero, List.push_toArray, List.append_toArray, List.nil_append, List.cons_append]
  gi_wp2_with fail
  refine HR1.out.mono ?_
  rintro e W1 (⟨rfl, hJ1, hk1⟩ | ⟨rfl, hx1⟩)
  · have HJJ := Lib.hid hJ1
    have HK1 := Lib.hid hk1
    have B1 := hk1.blk HB.out
    have q2 := B1.cells
    have m2 := B1.marks
    have HBB := Lib.hid B1
    clear hJ1 hk1 B1 q1 HR1
    gi_wp2_with fail
    gi_loopw [17, 3] (fun ix at_ wr => ∃ (k m : Nat) (pre : List (RunT w S)), k ≤ F.loose.length ∧ m = runAt F (k + 1) ∧ ix = .int .i64 k ∧ at_ = .int .i64 m ∧ RunsTo F (k + 1) pre ∧ J pre wr ∧ KpR n₀ B W wr) (fun ix _ _ => ll - (intOf ix).toNat)
    case atStart => exact ⟨0, fl, _, Nat.zero_le _, by show fl = F.firm.length + sumTo F.loose 0; rw [sumTo_zero, H2.out]; rfl, rfl, rfl, HJ1.out, HJJ.out, HK1.out⟩
    case round =>
      obtain ⟨k, m, pre, hk, hmk, rfl, rfl, hrt, hJ, hkp⟩ := hrel
      have hm2 : (m : Int) ≤ 524288 := by have := runAt_le F (k + 1); have := HM.out; omega
      have hk2 : k ≤ ll := by have := H1.out; omega
      have HMK := Lib.hid hmk
      have HRT := Lib.hid hrt
      have HJ := Lib.hid hJ
      have HKP := Lib.hid hkp
      clear hmk hrt hJ hkp q2 m2
      by_cases hlt : k < F.loose.length
      · obtain ⟨p, hp⟩ : ∃ p, F.loose[k]? = some p := ⟨_, List.getElem?_eq_getElem hlt⟩
        obtain ⟨b, o, pa, pl, pc, rfl, hb, hSb, hc, hP⟩ := HF.out.loose.hat k p hp
        have hcell : wr.cell? ⟨b, o + k, none⟩ = some (.slice pa pl pc) := (HKP.out.1.cell (p := ⟨b, o + k, none⟩) (HS.out b hSb)).trans ((HW.out.cell (p := ⟨b, o + k, none⟩) hb).trans hc)
        have hpl := hP.at_.hlen
        have hp2 : pl ≤ 524288 := by have := loose_le hp; have := HM.out; omega
        have hp3 : (pl : Int) ≤ 524288 := by omega
        have hpne : pl ≠ 0 := by
          intro h
          have := List.all_eq_true.1 HFU.out p (List.mem_of_getElem? hp)
          have hnil : p = [] := List.length_eq_zero_iff.1 (by omega)
          rw [hnil] at this; cases this
        obtain ⟨x, hx⟩ : ∃ x : RunT w S, x.1 = ⟨m, pa, pl, pc, p⟩ := ⟨⟨⟨m, pa, pl, pc, p⟩, hP, hp2, by show (0 : Int) ≤ m; omega, hm2, fun h => (hpne h).elim⟩, rfl⟩
        obtain ⟨fn, tmps, assign, body, hy, hR⟩ := HY.out pre x wr HJ.out (by rw [HRT.out.length (by omega)]; omega)
        dsimp only [RunT.encs] at hy
        rw [hx] at hy
        dsimp only at hy
        have HN := Lib.hid (HRT.out.snoc (x := x) (by rw [hx]; exact hp) (by rw [hx, ← HMK.out]))
        have HA := Lib.hid (runAt_two hp)
        have HPL := Lib.hid hpl
        have HR := Lib.hid hR
        have hkl : (k : Int) < (ll : Int) := by have := H1.out; omega
        have HLT := Lib.hid hlt
        clear hp hc hP hpl hx hR hlt hk hb hSb hpne
        gi_wp2_with fail
        refine HR.out.mono ?_
        rintro e W3 (⟨rfl, hJ3, hk3⟩ | ⟨rfl, hx3⟩)
        · have HJ3 := Lib.hid hJ3
          have HK3 := Lib.hid (HKP.out.trans hk3)
          clear hJ3 hk3 HR hcell
          gi_wp2_with fail
          go_roundw
          case rel => exact ⟨k + 1, m + pl, _, HLT.out, by rw [HA.out, ← HMK.out, HPL.out], by go_num, by go_num, HN.out, HJ3.out, HK3.out⟩
          case measure => simp [intOf]; omega
        · gi_wp2
          refine bodyPost_ret (results_none rfl _ _ _) rfl ?_
          exact ⟨⟨_, rfl⟩, .inr ⟨_, ⟨_, HN.out⟩, hx3⟩⟩
      · have hkl : k = F.loose.length := by omega
        have hk3 : ¬ ((k : Int) < (ll : Int)) := by have := H1.out; omega
        have HL := Lib.hid hkl; clear hkl hlt hk
        gi_wp2
        go_end0
        exact ⟨⟨_, rfl⟩, .inl ⟨_, by rw [← HL.out]; exact HRT.out, HJ.out⟩⟩
  · gi_wp2
    refine bodyPost_ret (results_none rfl _ _ _) rfl ?_
    exact ⟨⟨_, rfl⟩, .inr ⟨_, ⟨1, HJ1.out⟩, hx1⟩⟩
end Go.Proofs.Ytafigbomcgncnaa
