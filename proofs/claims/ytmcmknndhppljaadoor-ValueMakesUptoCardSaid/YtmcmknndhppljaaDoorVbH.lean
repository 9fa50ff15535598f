/-
  Layer 4: the program's test of a value without a look at its kids, walked.
  Layer 4: the values within a value, as the program tells them: the iterator that calls itself.
  Layer 4: the values within a value: the iterator's contract.
-/
import Derived.Test.YtmcmknndhppljaaDoorVbG
import Derived.Test.YtmcmknndhppljaaDoorVbA
import Derived.Laws.EntriesVeiled
import Derived.RangeFuncNested
import Derived.RangeFuncBound
import Derived.RangeFuncCalls
import Derived.RangeFuncLeaves
import Derived.RangeFuncBox
import Derived.Shelf.Abstract
import Derived.Shelf.RegionOpen
import Derived.WalkKit
import Derived.OwnWalkIn
import Derived.TacticsInMore
import Derived.LoopNIn
import Derived.LoopIn
import Derived.Test.YtmcmknndhppljaaDoorVbC
namespace Go.Proofs.YtmcmknndhppljaaDoor
set_option linter.unusedVariables false
set_option linter.unusedSimpArgs false
open Go.RowKit Go.Dav
attribute [local go_sem] Gives ite_val ite_val_true

theorem Tryd_enter101 (args : Array Value) (W : World) : (callFunc 101 args).run Tryd.prog W = .ok (Next.enter 101 args) W := by kernel_rfl
theorem Tryd_enter102 (args : Array Value) (W : World) : (callFunc 102 args).run Tryd.prog W = .ok (Next.enter 102 args) W := by kernel_rfl
theorem Tryd_enter103 (args : Array Value) (W : World) : (callFunc 103 args).run Tryd.prog W = .ok (Next.enter 103 args) W := by kernel_rfl
theorem Tryd_enter104 (args : Array Value) (W : World) : (callFunc 104 args).run Tryd.prog W = .ok (Next.enter 104 args) W := by kernel_rfl
theorem Tryd_enter105 (args : Array Value) (W : World) : (callFunc 105 args).run Tryd.prog W = .ok (Next.enter 105 args) W := by kernel_rfl
theorem Tryd_enter106 (args : Array Value) (W : World) : (callFunc 106 args).run Tryd.prog W = .ok (Next.enter 106 args) W := by kernel_rfl

set_option maxRecDepth 8000 in
set_option maxHeartbeats 8000000 in
theorem Tryd_is (x : ValF Unit) (v : Value) (ka qa : Option Addr) (kl kc ql qc : Nat) (w : World) (h : ValIs w (fun _ _ => True) v x ka kl kc qa ql qc) (hN : GlobAt w 0 [.int .i64 0, .int .i64 0] 143) :
    Calls Tryd.prog 83 #[v] w fun e w' => e = .returned (.bool (aloneB x)) ∧ Below w.heap.size w w' := by
  rw [← kindB_alone]
  obtain ⟨kind, n, s, kids, keys⟩ := x
  have hv := h.val
  have hkl := h.hlen
  have hK := h.keys
  have hs := h.hs
  have hql := hK.hlen
  have hk64 := h.hk
  dsimp only at hv hkl hql hK hs hk64
  subst hv
  have hq0 : Blk (w.alloc (.cells #[.int .i64 kind, .int .i64 n, .string s, .slice ka kl kc, .slice qa ql qc] 129)) w.heap.size [.int .i64 kind, .int .i64 n, .string s, .slice ka kl kc, .slice qa ql qc] 129 := Blk.new _ _ _
  obtain ⟨r, hr⟩ : ∃ r, kindB (⟨kind, n, s, kids, keys⟩ : ValF Unit) = r := ⟨_, rfl⟩
  rw [hr]
  unfold kindB bareB objB strEmpty at hr
  dsimp only at hr
  rw [hkl, hql] at hr
  have HK := Lib.hid hK
  have HS := Lib.hid hs
  have HN := Lib.hid hN
  clear h hkl hql hK hs hN hq0
  by_cases k1 : kind = 1
  · subst k1
    rw [if_pos rfl] at hr
    have HCC := Lib.hid (show ∀ W, Below w.heap.size w W → Calls Tryd.prog 101 #[.agg #[.int .i64 1, .int .i64 n, .string s, .slice ka kl kc, .slice qa ql qc]] W (fun e w' => e = .returned (.bool r) ∧ Below W.heap.size W w') from fun W hbw => by have hcc := Tryd_knull 1 n s ka qa kl kc ql qc W; rw [show (decide (n = 0) && (s.toList == (⟨#[]⟩ : ByteArray).toList && (decide (kl = 0) && decide (ql = 0)))) = r from by rw [← hr] <;> simp] at hcc; exact hcc)
    have hen := Tryd_enter101
    clear hr hk64
    go_enter Tryd.func83, Tryd.ntmps83
    go_wp2_with fail
    refine' wp_region_seq [.inl _, .inl _, .inl _, .inl _, .inl _, .inl _, .inl _, .inl _, .inl _, .inl _, .inl _, .inl _, .inl _, .inl _, .inl _, .inl _, .inl _, .inl _] (by kernel_rfl) (by kernel_rfl) ?main1
    case main1 =>
      refine wpParts_det (by rfl) (fun W hE hN => ?_) ?_
      · go_simp; refine ⟨Below.refl _ _, ?_⟩; rfl
      simp only [Act.put, List.setIfInBounds_toArray, List.set_cons_zero, List.set_cons_succ]
      refine wpParts_det (by rfl) (fun W hE hN => ?_) ?_
      · have hc := fun b o h => hE.cell (p := ⟨b, o, none⟩) h
        go_simp; refine ⟨Below.refl _ _, ?_⟩; rfl
      simp only [Act.put, List.setIfInBounds_toArray, List.set_cons_zero, List.set_cons_succ]
      refine wpParts_det (by rfl) (fun W hE hN => ?_) ?_
      · go_simp; refine ⟨Below.refl _ _, ?_⟩; rfl
      simp only [Act.put, List.setIfInBounds_toArray, List.set_cons_zero, List.set_cons_succ]
      refine wpParts_det (by rfl) (fun W hE hN => ?_) ?_
      · go_simp; refine ⟨Below.refl _ _, ?_⟩; rfl
      simp only [Act.put, List.setIfInBounds_toArray, List.set_cons_zero, List.set_cons_succ]
      refine wpParts_det (by rfl) (fun W hE hN => ?_) ?_
      · go_simp; refine ⟨Below.refl _ _, ?_⟩; rfl
      simp only [Act.put, List.setIfInBounds_toArray, List.set_cons_zero, List.set_cons_succ]
      refine wpParts_det (by rfl) (fun W hE hN => ?_) ?_
      · have hc := fun b o h => hE.cell (p := ⟨b, o, none⟩) h
        go_simp; refine ⟨Below.refl _ _, ?_⟩; rfl
      simp only [Act.put, List.setIfInBounds_toArray, List.set_cons_zero, List.set_cons_succ]
      refine wpParts_det (by rfl) (fun W hE hN => ?_) ?_
      · go_simp; refine ⟨Below.refl _ _, ?_⟩; rfl
      simp only [Act.put, List.setIfInBounds_toArray, List.set_cons_zero, List.set_cons_succ]
      refine wpParts_det (by rfl) (fun W hE hN => ?_) ?_
      · go_simp; refine ⟨Below.refl _ _, ?_⟩; rfl
      simp only [Act.put, List.setIfInBounds_toArray, List.set_cons_zero, List.set_cons_succ]
      refine wpParts_det (by rfl) (fun W hE hN => ?_) ?_
      · go_simp; refine ⟨Below.refl _ _, ?_⟩; rfl
      simp only [Act.put, List.setIfInBounds_toArray, List.set_cons_zero, List.set_cons_succ]
      refine wpParts_det (by rfl) (fun W hE hN => ?_) ?_
      · go_simp; refine ⟨Below.refl _ _, ?_⟩; rfl
      simp only [Act.put, List.setIfInBounds_toArray, List.set_cons_zero, List.set_cons_succ]
      refine wpParts_det (by rfl) (fun W hE hN => ?_) ?_
      · have hc := fun b o h => hE.cell (p := ⟨b, o, none⟩) h
        go_simp; refine ⟨Below.refl _ _, ?_⟩; rfl
      simp only [Act.put, List.setIfInBounds_toArray, List.set_cons_zero, List.set_cons_succ]
      refine wpParts_det (by rfl) (fun W hE hN => ?_) ?_
      · go_simp; refine ⟨Below.refl _ _, ?_⟩; rfl
      simp only [Act.put, List.setIfInBounds_toArray, List.set_cons_zero, List.set_cons_succ]
      refine wpParts_det (by rfl) (fun W hE hN => ?_) ?_
      · go_simp; refine ⟨Below.refl _ _, ?_⟩; rfl
      simp only [Act.put, List.setIfInBounds_toArray, List.set_cons_zero, List.set_cons_succ]
      refine wpParts_det (by rfl) (fun W hE hN => ?_) ?_
      · have hc := fun b o h => hE.cell (p := ⟨b, o, none⟩) h
        go_simp; refine ⟨Below.refl _ _, ?_⟩; rfl
      simp only [Act.put, List.setIfInBounds_toArray, List.set_cons_zero, List.set_cons_succ]
      refine wpParts_det (by rfl) (fun W hE hN => ?_) ?_
      · have hc := fun b o h => hE.cell (p := ⟨b, o, none⟩) h
        go_simp; refine ⟨Below.refl _ _, ?_⟩; rfl
      simp only [Act.put, List.setIfInBounds_toArray, List.set_cons_zero, List.set_cons_succ]
      refine wpParts_det (by rfl) (fun W hE hN => ?_) ?_
      · have hbw : Below w.heap.size w W := (by repeat (first | (with_reducible exact Below.refl _ _) | (with_reducible exact Below.refl _ _) | (with_reducible refine Below.setCell ?_ (by first | omega | (simp; done) | (simp; omega)) _) | (with_reducible refine Below.alloc ?_ (by first | omega | (simp; done) | (simp; omega)) _) | (with_reducible refine Below.drew ?_) | (with_reducible refine below_drewN ?_ _) | (with_reducible refine Below.trans ?_ (hE.mono (by first | omega | (simp; done) | (simp; omega)))))); go_simp; refine ⟨Below.refl _ _, ?_⟩; refine (HCC.out W hbw).mono ?_; rintro e w' ⟨rfl, hb⟩; refine ⟨?_, hb⟩; rfl
      simp only [Act.put, List.setIfInBounds_toArray, List.set_cons_zero, List.set_cons_succ]
      refine wpParts_det (by rfl) (fun W hE hN => ?_) ?_
      · go_simp; refine ⟨Below.refl _ _, ?_⟩; rfl
      simp only [Act.put, List.setIfInBounds_toArray, List.set_cons_zero, List.set_cons_succ]
      refine wpParts_det (by rfl) (fun W hE hN => ?_) ?_
      · go_simp; refine ⟨Below.refl _ _, ?_⟩; rfl
      simp only [Act.put, List.setIfInBounds_toArray, List.set_cons_zero, List.set_cons_succ]
      refine wpParts_end fun W2 hE2 hG2 => ?_
      have hcW2 := fun b o h => hE2.cell (p := ⟨b, o, none⟩) h
      have hfW2 := fun b o h => hE2.frozen (p := ⟨b, o, none⟩) h
      go_wp2
      go_ret
      exact ⟨rfl, (by repeat (first | (with_reducible exact Below.refl _ _) | (with_reducible exact Below.refl _ _) | (with_reducible refine Below.setCell ?_ (by first | omega | (simp; done) | (simp; omega)) _) | (with_reducible refine Below.alloc ?_ (by first | omega | (simp; done) | (simp; omega)) _) | (with_reducible refine Below.drew ?_) | (with_reducible refine below_drewN ?_ _) | (with_reducible refine Below.trans ?_ (hE2.mono (by first | omega | (simp; done) | (simp; omega))))))⟩
  · by_cases k2 : kind = 2
    · subst k2
      rw [if_neg (by decide), if_pos rfl] at hr
      have HCC := Lib.hid (show ∀ W, Below w.heap.size w W → Calls Tryd.prog 102 #[.agg #[.int .i64 2, .int .i64 n, .string s, .slice ka kl kc, .slice qa ql qc]] W (fun e w' => e = .returned (.bool r) ∧ Below W.heap.size W w') from fun W hbw => by have hcc := Tryd_ktruth 2 n s ka qa kl kc ql qc W; rw [show (decide (n = bits .and .i64 n 1) && (s.toList == (⟨#[]⟩ : ByteArray).toList && (decide (kl = 0) && decide (ql = 0)))) = r from by rw [← hr] <;> simp] at hcc; exact hcc)
      have hen := Tryd_enter102
      clear hr hk64
      go_enter Tryd.func83, Tryd.ntmps83
      go_wp2_with fail
      refine' wp_region_seq [.inl _, .inl _, .inl _, .inl _, .inl _, .inl _, .inl _, .inl _, .inl _, .inl _, .inl _, .inl _, .inl _, .inl _, .inl _, .inl _, .inl _, .inl _] (by kernel_rfl) (by kernel_rfl) ?main2
      case main2 =>
        refine wpParts_det (by rfl) (fun W hE hN => ?_) ?_
        · go_simp; refine ⟨Below.refl _ _, ?_⟩; rfl
        simp only [Act.put, List.setIfInBounds_toArray, List.set_cons_zero, List.set_cons_succ]
        refine wpParts_det (by rfl) (fun W hE hN => ?_) ?_
        · have hc := fun b o h => hE.cell (p := ⟨b, o, none⟩) h
          go_simp; refine ⟨Below.refl _ _, ?_⟩; rfl
        simp only [Act.put, List.setIfInBounds_toArray, List.set_cons_zero, List.set_cons_succ]
        refine wpParts_det (by rfl) (fun W hE hN => ?_) ?_
        · go_simp; refine ⟨Below.refl _ _, ?_⟩; rfl
        simp only [Act.put, List.setIfInBounds_toArray, List.set_cons_zero, List.set_cons_succ]
        refine wpParts_det (by rfl) (fun W hE hN => ?_) ?_
        · go_simp; refine ⟨Below.refl _ _, ?_⟩; rfl
        simp only [Act.put, List.setIfInBounds_toArray, List.set_cons_zero, List.set_cons_succ]
        refine wpParts_det (by rfl) (fun W hE hN => ?_) ?_
        · go_simp; refine ⟨Below.refl _ _, ?_⟩; rfl
        simp only [Act.put, List.setIfInBounds_toArray, List.set_cons_zero, List.set_cons_succ]
        refine wpParts_det (by rfl) (fun W hE hN => ?_) ?_
        · have hc := fun b o h => hE.cell (p := ⟨b, o, none⟩) h
          go_simp; refine ⟨Below.refl _ _, ?_⟩; rfl
        simp only [Act.put, List.setIfInBounds_toArray, List.set_cons_zero, List.set_cons_succ]
        refine wpParts_det (by rfl) (fun W hE hN => ?_) ?_
        · go_simp; refine ⟨Below.refl _ _, ?_⟩; rfl
        simp only [Act.put, List.setIfInBounds_toArray, List.set_cons_zero, List.set_cons_succ]
        refine wpParts_det (by rfl) (fun W hE hN => ?_) ?_
        · go_simp; refine ⟨Below.refl _ _, ?_⟩; rfl
        simp only [Act.put, List.setIfInBounds_toArray, List.set_cons_zero, List.set_cons_succ]
        refine wpParts_det (by rfl) (fun W hE hN => ?_) ?_
        · go_simp; refine ⟨Below.refl _ _, ?_⟩; rfl
        simp only [Act.put, List.setIfInBounds_toArray, List.set_cons_zero, List.set_cons_succ]
        refine wpParts_det (by rfl) (fun W hE hN => ?_) ?_
        · go_simp; refine ⟨Below.refl _ _, ?_⟩; rfl
        simp only [Act.put, List.setIfInBounds_toArray, List.set_cons_zero, List.set_cons_succ]
        refine wpParts_det (by rfl) (fun W hE hN => ?_) ?_
        · have hc := fun b o h => hE.cell (p := ⟨b, o, none⟩) h
          go_simp; refine ⟨Below.refl _ _, ?_⟩; rfl
        simp only [Act.put, List.setIfInBounds_toArray, List.set_cons_zero, List.set_cons_succ]
        refine wpParts_det (by rfl) (fun W hE hN => ?_) ?_
        · go_simp; refine ⟨Below.refl _ _, ?_⟩; rfl
        simp only [Act.put, List.setIfInBounds_toArray, List.set_cons_zero, List.set_cons_succ]
        refine wpParts_det (by rfl) (fun W hE hN => ?_) ?_
        · go_simp; refine ⟨Below.refl _ _, ?_⟩; rfl
        simp only [Act.put, List.setIfInBounds_toArray, List.set_cons_zero, List.set_cons_succ]
        refine wpParts_det (by rfl) (fun W hE hN => ?_) ?_
        · have hc := fun b o h => hE.cell (p := ⟨b, o, none⟩) h
          go_simp; refine ⟨Below.refl _ _, ?_⟩; rfl
        simp only [Act.put, List.setIfInBounds_toArray, List.set_cons_zero, List.set_cons_succ]
        refine wpParts_det (by rfl) (fun W hE hN => ?_) ?_
        · have hc := fun b o h => hE.cell (p := ⟨b, o, none⟩) h
          go_simp; refine ⟨Below.refl _ _, ?_⟩; rfl
        simp only [Act.put, List.setIfInBounds_toArray, List.set_cons_zero, List.set_cons_succ]
        refine wpParts_det (by rfl) (fun W hE hN => ?_) ?_
        · have hbw : Below w.heap.size w W := (by repeat (first | (with_reducible exact Below.refl _ _) | (with_reducible exact Below.refl _ _) | (with_reducible refine Below.setCell ?_ (by first | omega | (simp; done) | (simp; omega)) _) | (with_reducible refine Below.alloc ?_ (by first | omega | (simp; done) | (simp; omega)) _) | (with_reducible refine Below.drew ?_) | (with_reducible refine below_drewN ?_ _) | (with_reducible refine Below.trans ?_ (hE.mono (by first | omega | (simp; done) | (simp; omega)))))); go_simp; refine ⟨Below.refl _ _, ?_⟩; refine (HCC.out W hbw).mono ?_; rintro e w' ⟨rfl, hb⟩; refine ⟨?_, hb⟩; rfl
        simp only [Act.put, List.setIfInBounds_toArray, List.set_cons_zero, List.set_cons_succ]
        refine wpParts_det (by rfl) (fun W hE hN => ?_) ?_
        · go_simp; refine ⟨Below.refl _ _, ?_⟩; rfl
        simp only [Act.put, List.setIfInBounds_toArray, List.set_cons_zero, List.set_cons_succ]
        refine wpParts_det (by rfl) (fun W hE hN => ?_) ?_
        · go_simp; refine ⟨Below.refl _ _, ?_⟩; rfl
        simp only [Act.put, List.setIfInBounds_toArray, List.set_cons_zero, List.set_cons_succ]
        refine wpParts_end fun W2 hE2 hG2 => ?_
        have hcW2 := fun b o h => hE2.cell (p := ⟨b, o, none⟩) h
        have hfW2 := fun b o h => hE2.frozen (p := ⟨b, o, none⟩) h
        go_wp2
        go_ret
        exact ⟨rfl, (by repeat (first | (with_reducible exact Below.refl _ _) | (with_reducible exact Below.refl _ _) | (with_reducible refine Below.setCell ?_ (by first | omega | (simp; done) | (simp; omega)) _) | (with_reducible refine Below.alloc ?_ (by first | omega | (simp; done) | (simp; omega)) _) | (with_reducible refine Below.drew ?_) | (with_reducible refine below_drewN ?_ _) | (with_reducible refine Below.trans ?_ (hE2.mono (by first | omega | (simp; done) | (simp; omega))))))⟩
    · by_cases k3 : kind = 3
      · subst k3
        rw [if_neg (by decide), if_neg (by decide), if_pos rfl] at hr
        have HCC := Lib.hid (show ∀ W, Below w.heap.size w W → Calls Tryd.prog 103 #[.agg #[.int .i64 3, .int .i64 n, .string s, .slice ka kl kc, .slice qa ql qc]] W (fun e w' => e = .returned (.bool r) ∧ Below W.heap.size W w') from fun W hbw => by have hcc := Tryd_knumber 3 n s ka qa kl kc ql qc W; rw [show (decide (n = n) && (s.toList == (⟨#[]⟩ : ByteArray).toList && (decide (kl = 0) && decide (ql = 0)))) = r from by rw [← hr] <;> simp] at hcc; exact hcc)
        have hen := Tryd_enter103
        clear hr hk64
        go_enter Tryd.func83, Tryd.ntmps83
        go_wp2_with fail
        refine' wp_region_seq [.inl _, .inl _, .inl _, .inl _, .inl _, .inl _, .inl _, .inl _, .inl _, .inl _, .inl _, .inl _, .inl _, .inl _, .inl _, .inl _, .inl _, .inl _] (by kernel_rfl) (by kernel_rfl) ?main3
        case main3 =>
          refine wpParts_det (by rfl) (fun W hE hN => ?_) ?_
          · go_simp; refine ⟨Below.refl _ _, ?_⟩; rfl
          simp only [Act.put, List.setIfInBounds_toArray, List.set_cons_zero, List.set_cons_succ]
          refine wpParts_det (by rfl) (fun W hE hN => ?_) ?_
          · have hc := fun b o h => hE.cell (p := ⟨b, o, none⟩) h
            go_simp; refine ⟨Below.refl _ _, ?_⟩; rfl
          simp only [Act.put, List.setIfInBounds_toArray, List.set_cons_zero, List.set_cons_succ]
          refine wpParts_det (by rfl) (fun W hE hN => ?_) ?_
          · go_simp; refine ⟨Below.refl _ _, ?_⟩; rfl
          simp only [Act.put, List.setIfInBounds_toArray, List.set_cons_zero, List.set_cons_succ]
          refine wpParts_det (by rfl) (fun W hE hN => ?_) ?_
          · go_simp; refine ⟨Below.refl _ _, ?_⟩; rfl
          simp only [Act.put, List.setIfInBounds_toArray, List.set_cons_zero, List.set_cons_succ]
          refine wpParts_det (by rfl) (fun W hE hN => ?_) ?_
          · go_simp; refine ⟨Below.refl _ _, ?_⟩; rfl
          simp only [Act.put, List.setIfInBounds_toArray, List.set_cons_zero, List.set_cons_succ]
          refine wpParts_det (by rfl) (fun W hE hN => ?_) ?_
          · have hc := fun b o h => hE.cell (p := ⟨b, o, none⟩) h
            go_simp; refine ⟨Below.refl _ _, ?_⟩; rfl
          simp only [Act.put, List.setIfInBounds_toArray, List.set_cons_zero, List.set_cons_succ]
          refine wpParts_det (by rfl) (fun W hE hN => ?_) ?_
          · go_simp; refine ⟨Below.refl _ _, ?_⟩; rfl
          simp only [Act.put, List.setIfInBounds_toArray, List.set_cons_zero, List.set_cons_succ]
          refine wpParts_det (by rfl) (fun W hE hN => ?_) ?_
          · go_simp; refine ⟨Below.refl _ _, ?_⟩; rfl
          simp only [Act.put, List.setIfInBounds_toArray, List.set_cons_zero, List.set_cons_succ]
          refine wpParts_det (by rfl) (fun W hE hN => ?_) ?_
          · go_simp; refine ⟨Below.refl _ _, ?_⟩; rfl
          simp only [Act.put, List.setIfInBounds_toArray, List.set_cons_zero, List.set_cons_succ]
          refine wpParts_det (by rfl) (fun W hE hN => ?_) ?_
          · go_simp; refine ⟨Below.refl _ _, ?_⟩; rfl
          simp only [Act.put, List.setIfInBounds_toArray, List.set_cons_zero, List.set_cons_succ]
          refine wpParts_det (by rfl) (fun W hE hN => ?_) ?_
          · have hc := fun b o h => hE.cell (p := ⟨b, o, none⟩) h
            go_simp; refine ⟨Below.refl _ _, ?_⟩; rfl
          simp only [Act.put, List.setIfInBounds_toArray, List.set_cons_zero, List.set_cons_succ]
          refine wpParts_det (by rfl) (fun W hE hN => ?_) ?_
          · go_simp; refine ⟨Below.refl _ _, ?_⟩; rfl
          simp only [Act.put, List.setIfInBounds_toArray, List.set_cons_zero, List.set_cons_succ]
          refine wpParts_det (by rfl) (fun W hE hN => ?_) ?_
          · go_simp; refine ⟨Below.refl _ _, ?_⟩; rfl
          simp only [Act.put, List.setIfInBounds_toArray, List.set_cons_zero, List.set_cons_succ]
          refine wpParts_det (by rfl) (fun W hE hN => ?_) ?_
          · have hc := fun b o h => hE.cell (p := ⟨b, o, none⟩) h
            go_simp; refine ⟨Below.refl _ _, ?_⟩; rfl
          simp only [Act.put, List.setIfInBounds_toArray, List.set_cons_zero, List.set_cons_succ]
          refine wpParts_det (by rfl) (fun W hE hN => ?_) ?_
          · have hc := fun b o h => hE.cell (p := ⟨b, o, none⟩) h
            go_simp; refine ⟨Below.refl _ _, ?_⟩; rfl
          simp only [Act.put, List.setIfInBounds_toArray, List.set_cons_zero, List.set_cons_succ]
          refine wpParts_det (by rfl) (fun W hE hN => ?_) ?_
          · have hbw : Below w.heap.size w W := (by repeat (first | (with_reducible exact Below.refl _ _) | (with_reducible exact Below.refl _ _) | (with_reducible refine Below.setCell ?_ (by first | omega | (simp; done) | (simp; omega)) _) | (with_reducible refine Below.alloc ?_ (by first | omega | (simp; done) | (simp; omega)) _) | (with_reducible refine Below.drew ?_) | (with_reducible refine below_drewN ?_ _) | (with_reducible refine Below.trans ?_ (hE.mono (by first | omega | (simp; done) | (simp; omega)))))); go_simp; refine ⟨Below.refl _ _, ?_⟩; refine (HCC.out W hbw).mono ?_; rintro e w' ⟨rfl, hb⟩; refine ⟨?_, hb⟩; rfl
          simp only [Act.put, List.setIfInBounds_toArray, List.set_cons_zero, List.set_cons_succ]
          refine wpParts_det (by rfl) (fun W hE hN => ?_) ?_
          · go_simp; refine ⟨Below.refl _ _, ?_⟩; rfl
          simp only [Act.put, List.setIfInBounds_toArray, List.set_cons_zero, List.set_cons_succ]
          refine wpParts_det (by rfl) (fun W hE hN => ?_) ?_
          · go_simp; refine ⟨Below.refl _ _, ?_⟩; rfl
          simp only [Act.put, List.setIfInBounds_toArray, List.set_cons_zero, List.set_cons_succ]
          refine wpParts_end fun W2 hE2 hG2 => ?_
          have hcW2 := fun b o h => hE2.cell (p := ⟨b, o, none⟩) h
          have hfW2 := fun b o h => hE2.frozen (p := ⟨b, o, none⟩) h
          go_wp2
          go_ret
          exact ⟨rfl, (by repeat (first | (with_reducible exact Below.refl _ _) | (with_reducible exact Below.refl _ _) | (with_reducible refine Below.setCell ?_ (by first | omega | (simp; done) | (simp; omega)) _) | (with_reducible refine Below.alloc ?_ (by first | omega | (simp; done) | (simp; omega)) _) | (with_reducible refine Below.drew ?_) | (with_reducible refine below_drewN ?_ _) | (with_reducible refine Below.trans ?_ (hE2.mono (by first | omega | (simp; done) | (simp; omega))))))⟩
      · by_cases k4 : kind = 4
        · subst k4
          rw [if_neg (by decide), if_neg (by decide), if_neg (by decide), if_pos rfl] at hr
          have HCC := Lib.hid (show ∀ W, Below w.heap.size w W → Calls Tryd.prog 104 #[.agg #[.int .i64 4, .int .i64 n, .string s, .slice ka kl kc, .slice qa ql qc]] W (fun e w' => e = .returned (.bool r) ∧ Below W.heap.size W w') from fun W hbw => by have hcc := Tryd_ktext 4 n s ka qa kl kc ql qc W HS.out (HN.out.ext hbw); rw [show (validB s.data.toList && (decide (n = 0) && (s.toList == s.toList && (decide (kl = 0) && decide (ql = 0))))) = r from by rw [← hr] <;> simp] at hcc; exact hcc)
          have hen := Tryd_enter104
          clear hr hk64
          go_enter Tryd.func83, Tryd.ntmps83
          go_wp2_with fail
          refine' wp_region_seq [.inl _, .inl _, .inl _, .inl _, .inl _, .inl _, .inl _, .inl _, .inl _, .inl _, .inl _, .inl _, .inl _, .inl _, .inl _, .inl _, .inl _, .inl _] (by kernel_rfl) (by kernel_rfl) ?main4
          case main4 =>
            refine wpParts_det (by rfl) (fun W hE hN => ?_) ?_
            · go_simp; refine ⟨Below.refl _ _, ?_⟩; rfl
            simp only [Act.put, List.setIfInBounds_toArray, List.set_cons_zero, List.set_cons_succ]
            refine wpParts_det (by rfl) (fun W hE hN => ?_) ?_
            · have hc := fun b o h => hE.cell (p := ⟨b, o, none⟩) h
              go_simp; refine ⟨Below.refl _ _, ?_⟩; rfl
            simp only [Act.put, List.setIfInBounds_toArray, List.set_cons_zero, List.set_cons_succ]
            refine wpParts_det (by rfl) (fun W hE hN => ?_) ?_
            · go_simp; refine ⟨Below.refl _ _, ?_⟩; rfl
            simp only [Act.put, List.setIfInBounds_toArray, List.set_cons_zero, List.set_cons_succ]
            refine wpParts_det (by rfl) (fun W hE hN => ?_) ?_
            · go_simp; refine ⟨Below.refl _ _, ?_⟩; rfl
            simp only [Act.put, List.setIfInBounds_toArray, List.set_cons_zero, List.set_cons_succ]
            refine wpParts_det (by rfl) (fun W hE hN => ?_) ?_
            · go_simp; refine ⟨Below.refl _ _, ?_⟩; rfl
            simp only [Act.put, List.setIfInBounds_toArray, List.set_cons_zero, List.set_cons_succ]
            refine wpParts_det (by rfl) (fun W hE hN => ?_) ?_
            · have hc := fun b o h => hE.cell (p := ⟨b, o, none⟩) h
              go_simp; refine ⟨Below.refl _ _, ?_⟩; rfl
            simp only [Act.put, List.setIfInBounds_toArray, List.set_cons_zero, List.set_cons_succ]
            refine wpParts_det (by rfl) (fun W hE hN => ?_) ?_
            · go_simp; refine ⟨Below.refl _ _, ?_⟩; rfl
            simp only [Act.put, List.setIfInBounds_toArray, List.set_cons_zero, List.set_cons_succ]
            refine wpParts_det (by rfl) (fun W hE hN => ?_) ?_
            · go_simp; refine ⟨Below.refl _ _, ?_⟩; rfl
            simp only [Act.put, List.setIfInBounds_toArray, List.set_cons_zero, List.set_cons_succ]
            refine wpParts_det (by rfl) (fun W hE hN => ?_) ?_
            · go_simp; refine ⟨Below.refl _ _, ?_⟩; rfl
            simp only [Act.put, List.setIfInBounds_toArray, List.set_cons_zero, List.set_cons_succ]
            refine wpParts_det (by rfl) (fun W hE hN => ?_) ?_
            · go_simp; refine ⟨Below.refl _ _, ?_⟩; rfl
            simp only [Act.put, List.setIfInBounds_toArray, List.set_cons_zero, List.set_cons_succ]
            refine wpParts_det (by rfl) (fun W hE hN => ?_) ?_
            · have hc := fun b o h => hE.cell (p := ⟨b, o, none⟩) h
              go_simp; refine ⟨Below.refl _ _, ?_⟩; rfl
            simp only [Act.put, List.setIfInBounds_toArray, List.set_cons_zero, List.set_cons_succ]
            refine wpParts_det (by rfl) (fun W hE hN => ?_) ?_
            · go_simp; refine ⟨Below.refl _ _, ?_⟩; rfl
            simp only [Act.put, List.setIfInBounds_toArray, List.set_cons_zero, List.set_cons_succ]
            refine wpParts_det (by rfl) (fun W hE hN => ?_) ?_
            · go_simp; refine ⟨Below.refl _ _, ?_⟩; rfl
            simp only [Act.put, List.setIfInBounds_toArray, List.set_cons_zero, List.set_cons_succ]
            refine wpParts_det (by rfl) (fun W hE hN => ?_) ?_
            · have hc := fun b o h => hE.cell (p := ⟨b, o, none⟩) h
              go_simp; refine ⟨Below.refl _ _, ?_⟩; rfl
            simp only [Act.put, List.setIfInBounds_toArray, List.set_cons_zero, List.set_cons_succ]
            refine wpParts_det (by rfl) (fun W hE hN => ?_) ?_
            · have hc := fun b o h => hE.cell (p := ⟨b, o, none⟩) h
              go_simp; refine ⟨Below.refl _ _, ?_⟩; rfl
            simp only [Act.put, List.setIfInBounds_toArray, List.set_cons_zero, List.set_cons_succ]
            refine wpParts_det (by rfl) (fun W hE hN => ?_) ?_
            · have hbw : Below w.heap.size w W := (by repeat (first | (with_reducible exact Below.refl _ _) | (with_reducible exact Below.refl _ _) | (with_reducible refine Below.setCell ?_ (by first | omega | (simp; done) | (simp; omega)) _) | (with_reducible refine Below.alloc ?_ (by first | omega | (simp; done) | (simp; omega)) _) | (with_reducible refine Below.drew ?_) | (with_reducible refine below_drewN ?_ _) | (with_reducible refine Below.trans ?_ (hE.mono (by first | omega | (simp; done) | (simp; omega)))))); go_simp; refine ⟨Below.refl _ _, ?_⟩; refine (HCC.out W hbw).mono ?_; rintro e w' ⟨rfl, hb⟩; refine ⟨?_, hb⟩; rfl
            simp only [Act.put, List.setIfInBounds_toArray, List.set_cons_zero, List.set_cons_succ]
            refine wpParts_det (by rfl) (fun W hE hN => ?_) ?_
            · go_simp; refine ⟨Below.refl _ _, ?_⟩; rfl
            simp only [Act.put, List.setIfInBounds_toArray, List.set_cons_zero, List.set_cons_succ]
            refine wpParts_det (by rfl) (fun W hE hN => ?_) ?_
            · go_simp; refine ⟨Below.refl _ _, ?_⟩; rfl
            simp only [Act.put, List.setIfInBounds_toArray, List.set_cons_zero, List.set_cons_succ]
            refine wpParts_end fun W2 hE2 hG2 => ?_
            have hcW2 := fun b o h => hE2.cell (p := ⟨b, o, none⟩) h
            have hfW2 := fun b o h => hE2.frozen (p := ⟨b, o, none⟩) h
            go_wp2
            go_ret
            exact ⟨rfl, (by repeat (first | (with_reducible exact Below.refl _ _) | (with_reducible exact Below.refl _ _) | (with_reducible refine Below.setCell ?_ (by first | omega | (simp; done) | (simp; omega)) _) | (with_reducible refine Below.alloc ?_ (by first | omega | (simp; done) | (simp; omega)) _) | (with_reducible refine Below.drew ?_) | (with_reducible refine below_drewN ?_ _) | (with_reducible refine Below.trans ?_ (hE2.mono (by first | omega | (simp; done) | (simp; omega))))))⟩
        · by_cases k5 : kind = 5
          · subst k5
            rw [if_neg (by decide), if_neg (by decide), if_neg (by decide), if_neg (by decide), if_pos rfl] at hr
            have HCC := Lib.hid (show ∀ W, Below w.heap.size w W → Calls Tryd.prog 105 #[.agg #[.int .i64 5, .int .i64 n, .string s, .slice ka kl kc, .slice qa ql qc]] W (fun e w' => e = .returned (.bool r) ∧ Below W.heap.size W w') from fun W hbw => by have hcc := Tryd_klist 5 n s ka qa kl kc ql qc W; rw [show (decide (n = 0) && (s.toList == (⟨#[]⟩ : ByteArray).toList && (decide (kl = kl) && decide (ql = 0)))) = r from by rw [← hr] <;> simp] at hcc; exact hcc)
            have hen := Tryd_enter105
            clear hr hk64
            go_enter Tryd.func83, Tryd.ntmps83
            go_wp2_with fail
            refine' wp_region_seq [.inl _, .inl _, .inl _, .inl _, .inl _, .inl _, .inl _, .inl _, .inl _, .inl _, .inl _, .inl _, .inl _, .inl _, .inl _, .inl _, .inl _, .inl _] (by kernel_rfl) (by kernel_rfl) ?main5
            case main5 =>
              refine wpParts_det (by rfl) (fun W hE hN => ?_) ?_
              · go_simp; refine ⟨Below.refl _ _, ?_⟩; rfl
              simp only [Act.put, List.setIfInBounds_toArray, List.set_cons_zero, List.set_cons_succ]
              refine wpParts_det (by rfl) (fun W hE hN => ?_) ?_
              · have hc := fun b o h => hE.cell (p := ⟨b, o, none⟩) h
                go_simp; refine ⟨Below.refl _ _, ?_⟩; rfl
              simp only [Act.put, List.setIfInBounds_toArray, List.set_cons_zero, List.set_cons_succ]
              refine wpParts_det (by rfl) (fun W hE hN => ?_) ?_
              · go_simp; refine ⟨Below.refl _ _, ?_⟩; rfl
              simp only [Act.put, List.setIfInBounds_toArray, List.set_cons_zero, List.set_cons_succ]
              refine wpParts_det (by rfl) (fun W hE hN => ?_) ?_
              · go_simp; refine ⟨Below.refl _ _, ?_⟩; rfl
              simp only [Act.put, List.setIfInBounds_toArray, List.set_cons_zero, List.set_cons_succ]
              refine wpParts_det (by rfl) (fun W hE hN => ?_) ?_
              · go_simp; refine ⟨Below.refl _ _, ?_⟩; rfl
              simp only [Act.put, List.setIfInBounds_toArray, List.set_cons_zero, List.set_cons_succ]
              refine wpParts_det (by rfl) (fun W hE hN => ?_) ?_
              · have hc := fun b o h => hE.cell (p := ⟨b, o, none⟩) h
                go_simp; refine ⟨Below.refl _ _, ?_⟩; rfl
              simp only [Act.put, List.setIfInBounds_toArray, List.set_cons_zero, List.set_cons_succ]
              refine wpParts_det (by rfl) (fun W hE hN => ?_) ?_
              · go_simp; refine ⟨Below.refl _ _, ?_⟩; rfl
              simp only [Act.put, List.setIfInBounds_toArray, List.set_cons_zero, List.set_cons_succ]
              refine wpParts_det (by rfl) (fun W hE hN => ?_) ?_
              · go_simp; refine ⟨Below.refl _ _, ?_⟩; rfl
              simp only [Act.put, List.setIfInBounds_toArray, List.set_cons_zero, List.set_cons_succ]
              refine wpParts_det (by rfl) (fun W hE hN => ?_) ?_
              · go_simp; refine ⟨Below.refl _ _, ?_⟩; rfl
              simp only [Act.put, List.setIfInBounds_toArray, List.set_cons_zero, List.set_cons_succ]
              refine wpParts_det (by rfl) (fun W hE hN => ?_) ?_
              · go_simp; refine ⟨Below.refl _ _, ?_⟩; rfl
              simp only [Act.put, List.setIfInBounds_toArray, List.set_cons_zero, List.set_cons_succ]
              refine wpParts_det (by rfl) (fun W hE hN => ?_) ?_
              · have hc := fun b o h => hE.cell (p := ⟨b, o, none⟩) h
                go_simp; refine ⟨Below.refl _ _, ?_⟩; rfl
              simp only [Act.put, List.setIfInBounds_toArray, List.set_cons_zero, List.set_cons_succ]
              refine wpParts_det (by rfl) (fun W hE hN => ?_) ?_
              · go_simp; refine ⟨Below.refl _ _, ?_⟩; rfl
              simp only [Act.put, List.setIfInBounds_toArray, List.set_cons_zero, List.set_cons_succ]
              refine wpParts_det (by rfl) (fun W hE hN => ?_) ?_
              · go_simp; refine ⟨Below.refl _ _, ?_⟩; rfl
              simp only [Act.put, List.setIfInBounds_toArray, List.set_cons_zero, List.set_cons_succ]
              refine wpParts_det (by rfl) (fun W hE hN => ?_) ?_
              · have hc := fun b o h => hE.cell (p := ⟨b, o, none⟩) h
                go_simp; refine ⟨Below.refl _ _, ?_⟩; rfl
              simp only [Act.put, List.setIfInBounds_toArray, List.set_cons_zero, List.set_cons_succ]
              refine wpParts_det (by rfl) (fun W hE hN => ?_) ?_
              · have hc := fun b o h => hE.cell (p := ⟨b, o, none⟩) h
                go_simp; refine ⟨Below.refl _ _, ?_⟩; rfl
              simp only [Act.put, List.setIfInBounds_toArray, List.set_cons_zero, List.set_cons_succ]
              refine wpParts_det (by rfl) (fun W hE hN => ?_) ?_
              · have hbw : Below w.heap.size w W := (by repeat (first | (with_reducible exact Below.refl _ _) | (with_reducible exact Below.refl _ _) | (with_reducible refine Below.setCell ?_ (by first | omega | (simp; done) | (simp; omega)) _) | (with_reducible refine Below.alloc ?_ (by first | omega | (simp; done) | (simp; omega)) _) | (with_reducible refine Below.drew ?_) | (with_reducible refine below_drewN ?_ _) | (with_reducible refine Below.trans ?_ (hE.mono (by first | omega | (simp; done) | (simp; omega)))))); go_simp; refine ⟨Below.refl _ _, ?_⟩; refine (HCC.out W hbw).mono ?_; rintro e w' ⟨rfl, hb⟩; refine ⟨?_, hb⟩; rfl
              simp only [Act.put, List.setIfInBounds_toArray, List.set_cons_zero, List.set_cons_succ]
              refine wpParts_det (by rfl) (fun W hE hN => ?_) ?_
              · go_simp; refine ⟨Below.refl _ _, ?_⟩; rfl
              simp only [Act.put, List.setIfInBounds_toArray, List.set_cons_zero, List.set_cons_succ]
              refine wpParts_det (by rfl) (fun W hE hN => ?_) ?_
              · go_simp; refine ⟨Below.refl _ _, ?_⟩; rfl
              simp only [Act.put, List.setIfInBounds_toArray, List.set_cons_zero, List.set_cons_succ]
              refine wpParts_end fun W2 hE2 hG2 => ?_
              have hcW2 := fun b o h => hE2.cell (p := ⟨b, o, none⟩) h
              have hfW2 := fun b o h => hE2.frozen (p := ⟨b, o, none⟩) h
              go_wp2
              go_ret
              exact ⟨rfl, (by repeat (first | (with_reducible exact Below.refl _ _) | (with_reducible exact Below.refl _ _) | (with_reducible refine Below.setCell ?_ (by first | omega | (simp; done) | (simp; omega)) _) | (with_reducible refine Below.alloc ?_ (by first | omega | (simp; done) | (simp; omega)) _) | (with_reducible refine Below.drew ?_) | (with_reducible refine below_drewN ?_ _) | (with_reducible refine Below.trans ?_ (hE2.mono (by first | omega | (simp; done) | (simp; omega))))))⟩
          · by_cases k6 : kind = 6
            · subst k6
              rw [if_neg (by decide), if_neg (by decide), if_neg (by decide), if_neg (by decide), if_neg (by decide), if_pos rfl] at hr
              have HCC := Lib.hid (show ∀ W, Below w.heap.size w W → Calls Tryd.prog 106 #[.agg #[.int .i64 6, .int .i64 n, .string s, .slice ka kl kc, .slice qa ql qc]] W (fun e w' => e = .returned (.bool r) ∧ Below W.heap.size W w') from fun W hbw => by have hcc := Tryd_kobject 6 n s ka qa kl kc ql qc keys W (HK.out.ext hbw) (HN.out.ext hbw); rw [show (keysTo keys ql && (decide (n = 0) && (s.toList == (⟨#[]⟩ : ByteArray).toList && decide (kl = ql)))) = r from by rw [← hr] <;> simp] at hcc; exact hcc)
              have hen := Tryd_enter106
              clear hr hk64
              go_enter Tryd.func83, Tryd.ntmps83
              go_wp2_with fail
              refine' wp_region_seq [.inl _, .inl _, .inl _, .inl _, .inl _, .inl _, .inl _, .inl _, .inl _, .inl _, .inl _, .inl _, .inl _, .inl _, .inl _, .inl _, .inl _, .inl _] (by kernel_rfl) (by kernel_rfl) ?main6
              case main6 =>
                refine wpParts_det (by rfl) (fun W hE hN => ?_) ?_
                · go_simp; refine ⟨Below.refl _ _, ?_⟩; rfl
                simp only [Act.put, List.setIfInBounds_toArray, List.set_cons_zero, List.set_cons_succ]
                refine wpParts_det (by rfl) (fun W hE hN => ?_) ?_
                · have hc := fun b o h => hE.cell (p := ⟨b, o, none⟩) h
                  go_simp; refine ⟨Below.refl _ _, ?_⟩; rfl
                simp only [Act.put, List.setIfInBounds_toArray, List.set_cons_zero, List.set_cons_succ]
                refine wpParts_det (by rfl) (fun W hE hN => ?_) ?_
                · go_simp; refine ⟨Below.refl _ _, ?_⟩; rfl
                simp only [Act.put, List.setIfInBounds_toArray, List.set_cons_zero, List.set_cons_succ]
                refine wpParts_det (by rfl) (fun W hE hN => ?_) ?_
                · go_simp; refine ⟨Below.refl _ _, ?_⟩; rfl
                simp only [Act.put, List.setIfInBounds_toArray, List.set_cons_zero, List.set_cons_succ]
                refine wpParts_det (by rfl) (fun W hE hN => ?_) ?_
                · go_simp; refine ⟨Below.refl _ _, ?_⟩; rfl
                simp only [Act.put, List.setIfInBounds_toArray, List.set_cons_zero, List.set_cons_succ]
                refine wpParts_det (by rfl) (fun W hE hN => ?_) ?_
                · have hc := fun b o h => hE.cell (p := ⟨b, o, none⟩) h
                  go_simp; refine ⟨Below.refl _ _, ?_⟩; rfl
                simp only [Act.put, List.setIfInBounds_toArray, List.set_cons_zero, List.set_cons_succ]
                refine wpParts_det (by rfl) (fun W hE hN => ?_) ?_
                · go_simp; refine ⟨Below.refl _ _, ?_⟩; rfl
                simp only [Act.put, List.setIfInBounds_toArray, List.set_cons_zero, List.set_cons_succ]
                refine wpParts_det (by rfl) (fun W hE hN => ?_) ?_
                · go_simp; refine ⟨Below.refl _ _, ?_⟩; rfl
                simp only [Act.put, List.setIfInBounds_toArray, List.set_cons_zero, List.set_cons_succ]
                refine wpParts_det (by rfl) (fun W hE hN => ?_) ?_
                · go_simp; refine ⟨Below.refl _ _, ?_⟩; rfl
                simp only [Act.put, List.setIfInBounds_toArray, List.set_cons_zero, List.set_cons_succ]
                refine wpParts_det (by rfl) (fun W hE hN => ?_) ?_
                · go_simp; refine ⟨Below.refl _ _, ?_⟩; rfl
                simp only [Act.put, List.setIfInBounds_toArray, List.set_cons_zero, List.set_cons_succ]
                refine wpParts_det (by rfl) (fun W hE hN => ?_) ?_
                · have hc := fun b o h => hE.cell (p := ⟨b, o, none⟩) h
                  go_simp; refine ⟨Below.refl _ _, ?_⟩; rfl
                simp only [Act.put, List.setIfInBounds_toArray, List.set_cons_zero, List.set_cons_succ]
                refine wpParts_det (by rfl) (fun W hE hN => ?_) ?_
                · go_simp; refine ⟨Below.refl _ _, ?_⟩; rfl
                simp only [Act.put, List.setIfInBounds_toArray, List.set_cons_zero, List.set_cons_succ]
                refine wpParts_det (by rfl) (fun W hE hN => ?_) ?_
                · go_simp; refine ⟨Below.refl _ _, ?_⟩; rfl
                simp only [Act.put, List.setIfInBounds_toArray, List.set_cons_zero, List.set_cons_succ]
                refine wpParts_det (by rfl) (fun W hE hN => ?_) ?_
                · have hc := fun b o h => hE.cell (p := ⟨b, o, none⟩) h
                  go_simp; refine ⟨Below.refl _ _, ?_⟩; rfl
                simp only [Act.put, List.setIfInBounds_toArray, List.set_cons_zero, List.set_cons_succ]
                refine wpParts_det (by rfl) (fun W hE hN => ?_) ?_
                · have hc := fun b o h => hE.cell (p := ⟨b, o, none⟩) h
                  go_simp; refine ⟨Below.refl _ _, ?_⟩; rfl
                simp only [Act.put, List.setIfInBounds_toArray, List.set_cons_zero, List.set_cons_succ]
                refine wpParts_det (by rfl) (fun W hE hN => ?_) ?_
                · have hbw : Below w.heap.size w W := (by repeat (first | (with_reducible exact Below.refl _ _) | (with_reducible exact Below.refl _ _) | (with_reducible refine Below.setCell ?_ (by first | omega | (simp; done) | (simp; omega)) _) | (with_reducible refine Below.alloc ?_ (by first | omega | (simp; done) | (simp; omega)) _) | (with_reducible refine Below.drew ?_) | (with_reducible refine below_drewN ?_ _) | (with_reducible refine Below.trans ?_ (hE.mono (by first | omega | (simp; done) | (simp; omega)))))); go_simp; refine ⟨Below.refl _ _, ?_⟩; refine (HCC.out W hbw).mono ?_; rintro e w' ⟨rfl, hb⟩; refine ⟨?_, hb⟩; rfl
                simp only [Act.put, List.setIfInBounds_toArray, List.set_cons_zero, List.set_cons_succ]
                refine wpParts_det (by rfl) (fun W hE hN => ?_) ?_
                · go_simp; refine ⟨Below.refl _ _, ?_⟩; rfl
                simp only [Act.put, List.setIfInBounds_toArray, List.set_cons_zero, List.set_cons_succ]
                refine wpParts_det (by rfl) (fun W hE hN => ?_) ?_
                · go_simp; refine ⟨Below.refl _ _, ?_⟩; rfl
                simp only [Act.put, List.setIfInBounds_toArray, List.set_cons_zero, List.set_cons_succ]
                refine wpParts_end fun W2 hE2 hG2 => ?_
                have hcW2 := fun b o h => hE2.cell (p := ⟨b, o, none⟩) h
                have hfW2 := fun b o h => hE2.frozen (p := ⟨b, o, none⟩) h
                go_wp2
                go_ret
                exact ⟨rfl, (by repeat (first | (with_reducible exact Below.refl _ _) | (with_reducible exact Below.refl _ _) | (with_reducible refine Below.setCell ?_ (by first | omega | (simp; done) | (simp; omega)) _) | (with_reducible refine Below.alloc ?_ (by first | omega | (simp; done) | (simp; omega)) _) | (with_reducible refine Below.drew ?_) | (with_reducible refine below_drewN ?_ _) | (with_reducible refine Below.trans ?_ (hE2.mono (by first | omega | (simp; done) | (simp; omega))))))⟩
            · rw [if_neg k1, if_neg k2, if_neg k3, if_neg k4, if_neg k5, if_neg k6] at hr
              subst hr
              by_cases h1 : kind < 1
              · have g1 : ¬ (1 : Int) ≤ kind := by omega
                have g1d : decide ((1 : Int) ≤ kind) = false := decide_eq_false g1
                clear h1 k1 k2 k3 k4 k5 k6 HK HS HN hk64
                go_enter Tryd.func83, Tryd.ntmps83
                go_wp2_with fail
                refine' wp_region_seq [.inl _, .inl _, .inl _, .inl _, .inl undef, .inl undef, .inl undef, .inl _, .inl _, .inl undef, .inl undef, .inl undef, .inl undef, .inl undef, .inl undef, .inl undef, .inl _, .inl _] (by kernel_rfl) (by kernel_rfl) ?main7
                case main7 =>
                  refine wpParts_det (by rfl) (fun W hE hN => ?_) ?_
                  · go_simp; refine ⟨Below.refl _ _, ?_⟩; rfl
                  simp only [Act.put, List.setIfInBounds_toArray, List.set_cons_zero, List.set_cons_succ]
                  refine wpParts_det (by rfl) (fun W hE hN => ?_) ?_
                  · have hc := fun b o h => hE.cell (p := ⟨b, o, none⟩) h
                    go_simp; refine ⟨Below.refl _ _, ?_⟩; rfl
                  simp only [Act.put, List.setIfInBounds_toArray, List.set_cons_zero, List.set_cons_succ]
                  refine wpParts_det (by rfl) (fun W hE hN => ?_) ?_
                  · go_simp; refine ⟨Below.refl _ _, ?_⟩; rfl
                  simp only [Act.put, List.setIfInBounds_toArray, List.set_cons_zero, List.set_cons_succ]
                  refine wpParts_det (by rfl) (fun W hE hN => ?_) ?_
                  · go_simp; refine ⟨Below.refl _ _, ?_⟩; rfl
                  simp only [Act.put, List.setIfInBounds_toArray, List.set_cons_zero, List.set_cons_succ]
                  refine wpParts_skip ?_ ?_
                  · rfl
                  simp only [Act.put, List.setIfInBounds_toArray, List.set_cons_zero, List.set_cons_succ]
                  refine wpParts_skip ?_ ?_
                  · rfl
                  simp only [Act.put, List.setIfInBounds_toArray, List.set_cons_zero, List.set_cons_succ]
                  refine wpParts_skip ?_ ?_
                  · rfl
                  simp only [Act.put, List.setIfInBounds_toArray, List.set_cons_zero, List.set_cons_succ]
                  refine wpParts_det (by rfl) (fun W hE hN => ?_) ?_
                  · go_simp; refine ⟨Below.refl _ _, ?_⟩; rfl
                  simp only [Act.put, List.setIfInBounds_toArray, List.set_cons_zero, List.set_cons_succ]
                  refine wpParts_det (by rfl) (fun W hE hN => ?_) ?_
                  · go_simp; refine ⟨Below.refl _ _, ?_⟩; rfl
                  simp only [Act.put, List.setIfInBounds_toArray, List.set_cons_zero, List.set_cons_succ]
                  refine wpParts_skip ?_ ?_
                  · rfl
                  simp only [Act.put, List.setIfInBounds_toArray, List.set_cons_zero, List.set_cons_succ]
                  refine wpParts_skip ?_ ?_
                  · rfl
                  simp only [Act.put, List.setIfInBounds_toArray, List.set_cons_zero, List.set_cons_succ]
                  refine wpParts_skip ?_ ?_
                  · rfl
                  simp only [Act.put, List.setIfInBounds_toArray, List.set_cons_zero, List.set_cons_succ]
                  refine wpParts_skip ?_ ?_
                  · rfl
                  simp only [Act.put, List.setIfInBounds_toArray, List.set_cons_zero, List.set_cons_succ]
                  refine wpParts_skip ?_ ?_
                  · rfl
                  simp only [Act.put, List.setIfInBounds_toArray, List.set_cons_zero, List.set_cons_succ]
                  refine wpParts_skip ?_ ?_
                  · rfl
                  simp only [Act.put, List.setIfInBounds_toArray, List.set_cons_zero, List.set_cons_succ]
                  refine wpParts_skip ?_ ?_
                  · rfl
                  simp only [Act.put, List.setIfInBounds_toArray, List.set_cons_zero, List.set_cons_succ]
                  refine wpParts_det (by rfl) (fun W hE hN => ?_) ?_
                  · go_simp; refine ⟨Below.refl _ _, ?_⟩; rfl
                  simp only [Act.put, List.setIfInBounds_toArray, List.set_cons_zero, List.set_cons_succ]
                  refine wpParts_det (by rfl) (fun W hE hN => ?_) ?_
                  · go_simp; refine ⟨Below.refl _ _, ?_⟩; rfl
                  simp only [Act.put, List.setIfInBounds_toArray, List.set_cons_zero, List.set_cons_succ]
                  refine wpParts_end fun W2 hE2 hG2 => ?_
                  have hcW2 := fun b o h => hE2.cell (p := ⟨b, o, none⟩) h
                  have hfW2 := fun b o h => hE2.frozen (p := ⟨b, o, none⟩) h
                  go_wp2
                  go_ret
                  exact ⟨rfl, (by repeat (first | (with_reducible exact Below.refl _ _) | (with_reducible exact Below.refl _ _) | (with_reducible refine Below.setCell ?_ (by first | omega | (simp; done) | (simp; omega)) _) | (with_reducible refine Below.alloc ?_ (by first | omega | (simp; done) | (simp; omega)) _) | (with_reducible refine Below.drew ?_) | (with_reducible refine below_drewN ?_ _) | (with_reducible refine Below.trans ?_ (hE2.mono (by first | omega | (simp; done) | (simp; omega))))))⟩
              · have g1 : (1 : Int) ≤ kind := by omega
                have g1d : decide ((1 : Int) ≤ kind) = true := decide_eq_true g1
                have g2 : ¬ kind ≤ 6 := by omega
                have g2d : decide (kind ≤ 6) = false := decide_eq_false g2
                clear h1 k1 k2 k3 k4 k5 k6 HK HS HN hk64
                go_enter Tryd.func83, Tryd.ntmps83
                go_wp2_with fail
                refine' wp_region_seq [.inl _, .inl _, .inl _, .inl _, .inl _, .inl _, .inl _, .inl _, .inl _, .inl undef, .inl undef, .inl undef, .inl undef, .inl undef, .inl undef, .inl undef, .inl _, .inl _] (by kernel_rfl) (by kernel_rfl) ?main8
                case main8 =>
                  refine wpParts_det (by rfl) (fun W hE hN => ?_) ?_
                  · go_simp; refine ⟨Below.refl _ _, ?_⟩; rfl
                  simp only [Act.put, List.setIfInBounds_toArray, List.set_cons_zero, List.set_cons_succ]
                  refine wpParts_det (by rfl) (fun W hE hN => ?_) ?_
                  · have hc := fun b o h => hE.cell (p := ⟨b, o, none⟩) h
                    go_simp; refine ⟨Below.refl _ _, ?_⟩; rfl
                  simp only [Act.put, List.setIfInBounds_toArray, List.set_cons_zero, List.set_cons_succ]
                  refine wpParts_det (by rfl) (fun W hE hN => ?_) ?_
                  · go_simp; refine ⟨Below.refl _ _, ?_⟩; rfl
                  simp only [Act.put, List.setIfInBounds_toArray, List.set_cons_zero, List.set_cons_succ]
                  refine wpParts_det (by rfl) (fun W hE hN => ?_) ?_
                  · go_simp; refine ⟨Below.refl _ _, ?_⟩; rfl
                  simp only [Act.put, List.setIfInBounds_toArray, List.set_cons_zero, List.set_cons_succ]
                  refine wpParts_det (by rfl) (fun W hE hN => ?_) ?_
                  · go_simp; refine ⟨Below.refl _ _, ?_⟩; rfl
                  simp only [Act.put, List.setIfInBounds_toArray, List.set_cons_zero, List.set_cons_succ]
                  refine wpParts_det (by rfl) (fun W hE hN => ?_) ?_
                  · have hc := fun b o h => hE.cell (p := ⟨b, o, none⟩) h
                    go_simp; refine ⟨Below.refl _ _, ?_⟩; rfl
                  simp only [Act.put, List.setIfInBounds_toArray, List.set_cons_zero, List.set_cons_succ]
                  refine wpParts_det (by rfl) (fun W hE hN => ?_) ?_
                  · go_simp; refine ⟨Below.refl _ _, ?_⟩; rfl
                  simp only [Act.put, List.setIfInBounds_toArray, List.set_cons_zero, List.set_cons_succ]
                  refine wpParts_det (by rfl) (fun W hE hN => ?_) ?_
                  · go_simp; refine ⟨Below.refl _ _, ?_⟩; rfl
                  simp only [Act.put, List.setIfInBounds_toArray, List.set_cons_zero, List.set_cons_succ]
                  refine wpParts_det (by rfl) (fun W hE hN => ?_) ?_
                  · go_simp; refine ⟨Below.refl _ _, ?_⟩; rfl
                  simp only [Act.put, List.setIfInBounds_toArray, List.set_cons_zero, List.set_cons_succ]
                  refine wpParts_skip ?_ ?_
                  · rfl
                  simp only [Act.put, List.setIfInBounds_toArray, List.set_cons_zero, List.set_cons_succ]
                  refine wpParts_skip ?_ ?_
                  · rfl
                  simp only [Act.put, List.setIfInBounds_toArray, List.set_cons_zero, List.set_cons_succ]
                  refine wpParts_skip ?_ ?_
                  · rfl
                  simp only [Act.put, List.setIfInBounds_toArray, List.set_cons_zero, List.set_cons_succ]
                  refine wpParts_skip ?_ ?_
                  · rfl
                  simp only [Act.put, List.setIfInBounds_toArray, List.set_cons_zero, List.set_cons_succ]
                  refine wpParts_skip ?_ ?_
                  · rfl
                  simp only [Act.put, List.setIfInBounds_toArray, List.set_cons_zero, List.set_cons_succ]
                  refine wpParts_skip ?_ ?_
                  · rfl
                  simp only [Act.put, List.setIfInBounds_toArray, List.set_cons_zero, List.set_cons_succ]
                  refine wpParts_skip ?_ ?_
                  · rfl
                  simp only [Act.put, List.setIfInBounds_toArray, List.set_cons_zero, List.set_cons_succ]
                  refine wpParts_det (by rfl) (fun W hE hN => ?_) ?_
                  · go_simp; refine ⟨Below.refl _ _, ?_⟩; rfl
                  simp only [Act.put, List.setIfInBounds_toArray, List.set_cons_zero, List.set_cons_succ]
                  refine wpParts_det (by rfl) (fun W hE hN => ?_) ?_
                  · go_simp; refine ⟨Below.refl _ _, ?_⟩; rfl
                  simp only [Act.put, List.setIfInBounds_toArray, List.set_cons_zero, List.set_cons_succ]
                  refine wpParts_end fun W2 hE2 hG2 => ?_
                  have hcW2 := fun b o h => hE2.cell (p := ⟨b, o, none⟩) h
                  have hfW2 := fun b o h => hE2.frozen (p := ⟨b, o, none⟩) h
                  go_wp2
                  go_ret
                  exact ⟨rfl, (by repeat (first | (with_reducible exact Below.refl _ _) | (with_reducible exact Below.refl _ _) | (with_reducible refine Below.setCell ?_ (by first | omega | (simp; done) | (simp; omega)) _) | (with_reducible refine Below.alloc ?_ (by first | omega | (simp; done) | (simp; omega)) _) | (with_reducible refine Below.drew ?_) | (with_reducible refine below_drewN ?_ _) | (with_reducible refine Below.trans ?_ (hE2.mono (by first | omega | (simp; done) | (simp; omega))))))⟩
end Go.Proofs.YtmcmknndhppljaaDoor

namespace Go.Dav
set_option linter.unusedVariables false
set_option linter.unusedSimpArgs false
open Go Go.RowKit
/-- Blocks of cells are kept, but for those that p names. -/
def KpV (p : Nat → Prop) (W W' : World) : Prop := W.heap.size ≤ W'.heap.size ∧ ∀ (k : Nat) (o : Obj), W.heap[k]? = some o → o.isCells = true → ¬ p k → W'.heap[k]? = some o
theorem KpV.refl (p : Nat → Prop) (W : World) : KpV p W W := ⟨Nat.le_refl _, fun _ _ h _ _ => h⟩
theorem KpV.t {p : Nat → Prop} : ∀ {A B C : World}, KpV p A B → KpV p B C → KpV p A C := fun h k => ⟨Nat.le_trans h.1 k.1, fun i o h1 h2 h3 => k.2 i o (h.2 i o h1 h2 h3) h2 h3⟩
theorem KpV.b {p : Nat → Prop} {n : Nat} : ∀ (W : World) (l : Nat) (o o' : Obj), n ≤ l → W.heap[l]? = some o → o.isCells = false → o.isWalk = false → KpV p W (W.putObj l o') := fun W l o o' _ h2 h3 _ =>
  ⟨(grownBy_putObj' W l o').size, fun k x h4 h5 _ => by
    refine ((grownBy_putObj' W l o').block k (Array.getElem?_eq_some_iff.1 h4).1 (fun e => ?_)).trans h4
    cases e
    rw [h2] at h4; cases h4; rw [h3] at h5; cases h5⟩
theorem KpV.of_only {p : Nat → Prop} {W W' : World} (h : OnlyS p W W') : KpV p W W' := ⟨h.size, fun k o h1 _ h3 => (h.block k (Array.getElem?_eq_some_iff.1 h1).1 h3).trans h1⟩
theorem KpV.of_below {p : Nat → Prop} {W W' : World} (h : Below W.heap.size W W') : KpV p W W' := KpV.of_only (OnlyS.of_below h)
theorem KpV.blk {p : Nat → Prop} {W W' : World} (h : KpV p W W') {q : Nat} {cs : List Value} {t : TypeId} (hb : Blk W q cs t) (hq : ¬ p q) : Blk W' q cs t := h.2 q _ hb rfl hq
theorem grownBy_of_belowV {W W' : World} (h : Below W.heap.size W W') : W.grownBy W' none := ⟨h.os, h.tape, h.output, h.size, fun k hk _ => h.block k hk⟩
theorem cell_isCellsV {W : World} {b i : Nat} {v : Value} (h : W.cell? ⟨b, i, none⟩ = some v) : ∃ o, W.heap[b]? = some o ∧ o.isCells = true := by
  unfold World.cell? at h
  cases hb : W.heap[b]? with
  | none => simp [hb] at h
  | some o =>
    refine ⟨o, rfl, ?_⟩
    cases o <;> first | rfl | (simp [hb] at h)
theorem KpV.cell {p : Nat → Prop} {W W' : World} (k : KpV p W W') {b i : Nat} {v : Value} (h : W.cell? ⟨b, i, none⟩ = some v) (hp : ¬ p b) : W'.cell? ⟨b, i, none⟩ = some v := by
  obtain ⟨ob, hb, hc⟩ := cell_isCellsV h
  have h5 := k.2 b ob hb hc hp
  rw [World.cell?_of_block (h5.trans hb.symm)]; exact h
theorem StrsAt.kpv {p : Nat → Prop} {W W' : World} {a : Option Addr} {len cap : Nat} {l : List ByteArray} (h : StrsAt W a len cap l) (k : KpV p W W') (hp : ∀ b, b < W.heap.size → ¬ p b) : StrsAt W' a len cap l :=
  ⟨h.hlen, h.hcap, h.hmax, h.hfew, fun i x hi => by
    obtain ⟨b, o, h1, h2, h3⟩ := h.hat i x hi
    exact ⟨b, o, h1, Nat.lt_of_lt_of_le h2 k.1, k.cell h3 (hp b h2)⟩, h.hnil, h.hsz⟩
theorem ValIs.kpv {p : Nat → Prop} {W W' : World} {K : Type} {R R' : Value → K → Prop} {v : Value} {x : ValF K} {ka qa : Option Addr} {kl kc ql qc : Nat} (h : ValIs W R v x ka kl kc qa ql qc) (k : KpV p W W') (hp : ∀ b, b < W.heap.size → ¬ p b) (hR : ∀ v y, R v y → R' v y) : ValIs W' R' v x ka kl kc qa ql qc :=
  ⟨h.val, h.hk, h.hn, h.hs, h.hlen, h.hcap, h.hmax, h.hfew, h.hnil, fun i y hy => by
    obtain ⟨b, o, u0, u1, u2, u3, u4, h1, h2, c0, c1, c2, c3, c4, hv⟩ := h.hkid i y hy
    exact ⟨b, o, u0, u1, u2, u3, u4, h1, Nat.lt_of_lt_of_le h2 k.1, k.cell c0 (hp b h2), k.cell c1 (hp b h2), k.cell c2 (hp b h2), k.cell c3 (hp b h2), k.cell c4 (hp b h2), hR _ _ hv⟩, h.keys.kpv k hp⟩
/-- The same, without a look at the kids. -/
theorem ValIs.top {W : World} {K : Type} {R : Value → K → Prop} {v : Value} {x : ValF K} {ka qa : Option Addr} {kl kc ql qc : Nat} (h : ValIs W R v x ka kl kc qa ql qc) : ValIs W (fun _ _ => True) v (topF x) ka kl kc qa ql qc :=
  ⟨h.val, h.hk, h.hn, h.hs, by show (x.kids.map _).length = kl; rw [List.length_map]; exact h.hlen, h.hcap, h.hmax, h.hfew, h.hnil, fun i y hy => by
    have hy' : (x.kids.map (fun _ => ()))[i]? = some y := hy
    rw [List.getElem?_map] at hy'
    cases hx : x.kids[i]? with
    | none => rw [hx] at hy'; cases hy'
    | some z =>
      obtain ⟨b, o, u0, u1, u2, u3, u4, h1, h2, c0, c1, c2, c3, c4, _⟩ := h.hkid i z hx
      exact ⟨b, o, u0, u1, u2, u3, u4, h1, h2, c0, c1, c2, c3, c4, trivial⟩, h.keys⟩
def TopOk (w : World) (q : (Nat × ValF Unit) × Value) : Prop := ∃ ka kl kc qa ql qc, ValIs w (fun _ _ => True) q.2 q.1.2 ka kl kc qa ql qc
/-- What is told: how many hold it, and it. -/
abbrev TopT (w : World) : Type := { q : (Nat × ValF Unit) × Value // TopOk w q }
def lvOf (L : Nat) : Int := IntKind.i64.wrap (L : Int)
abbrev TopT.encs {w : World} (x : TopT w) : Array Value := #[.int .i64 (lvOf x.1.1.1), x.1.2]
theorem lv_succ (L : Nat) : IntKind.i64.wrap (lvOf L + 1) = lvOf (L + 1) := by
  unfold lvOf
  rw [IntKind.wrap_i64, IntKind.wrap_i64, IntKind.wrap_i64]
  omega
theorem lv_succ' (L : Nat) : wrap64 (lvOf L + 1) = lvOf (L + 1) := by
  unfold lvOf wrap64
  rw [IntKind.wrap_i64, IntKind.wrap_i64]
  omega
theorem RoundIn.anyD {F : Fence} (hd : F.depth = none) {m m' : Nat} {P : Program} {l : Nat} {f : FuncId} {tmps : Array Value} {assign body : Code} {w : World} {R : Ending → World → Prop}
    (h : RoundIn F m P l f tmps assign body w R) : RoundIn F m' P l f tmps assign body w R := ⟨h.1, fun c cs _ => h.2 c cs (fun d h => by rw [hd] at h; cases h)⟩
theorem YieldAt.anyD {F : Fence} (hd : F.depth = none) {m : Nat} (m' : Nat) {P : Program} {l : Nat} {args : Array Value} {W : World} {R : Ending → World → Prop} (h : YieldAt F m P l args W R) : YieldAt F m' P l args W R := by
  obtain ⟨fn, tmps, assign, body, hy, hR⟩ := h
  exact ⟨fn, tmps, assign, body, hy, RoundIn.anyD hd hR⟩
/-- The values that are told, ahead of the i-th kid. -/
def heads (d : Nat) (L : Nat) (x : ValN (d + 1)) (i : Nat) : List (Nat × ValF Unit) := (L, topF x.to) :: ((x.to.kids.take i).map (allV d (L + 1))).flatten
theorem heads_succ {d L : Nat} {x : ValN (d + 1)} {i : Nat} {y : ValN d} (h : x.to.kids[i]? = some y) : heads d L x (i + 1) = heads d L x i ++ allV d (L + 1) y := by
  unfold heads
  rw [List.take_add_one, h, List.map_append, List.flatten_append]
  simp
theorem heads_all {d L : Nat} {x : ValN (d + 1)} {i : Nat} (h : x.to.kids.length ≤ i) : heads d L x i = allV (d + 1) L x := by
  unfold heads
  rw [List.take_of_length_le h]
  rfl
theorem heads_prefix {d L : Nat} {x : ValN (d + 1)} (i : Nat) : heads d L x i <+: allV (d + 1) L x := by
  refine ⟨((x.to.kids.drop i).map (allV d (L + 1))).flatten, ?_⟩
  unfold heads
  rw [List.cons_append, ← List.flatten_append, ← List.map_append, List.take_append_drop]
  rfl
end Go.Dav
namespace Go.Proofs.YtmcmknndhppljaaDoor
set_option linter.unusedVariables false
set_option linter.unusedSimpArgs false
open Go.RowKit Go.Dav Go.Shelf
attribute [local go_sem] Gives ite_val ite_val_true Oper.semAt_some

theorem Tryd_enter100 (args : Array Value) (W : World) : (callFunc 100 args).run Tryd.prog W = .ok (Next.enter 100 args) W := by kernel_rfl
theorem Tryd_enter99 (args : Array Value) (W : World) : (callFunc 99 args).run Tryd.prog W = .ok (Next.enter 99 args) W := by kernel_rfl

set_option maxRecDepth 100000 in
set_option maxHeartbeats 8000000 in
theorem Tryd_into (w : World) (p : Nat → Prop) (l yb ib N B0 : Nat) (J Jx : List (TopT w) → World → Prop) (hp : ∀ b, b < w.heap.size → ¬ p b) (hp2 : ∀ b, B0 ≤ b → ¬ p b) (hyb : ¬ p yb) (hib : ¬ p ib) (hA : AbidesFrom B0 J)
    (hY : ∀ m pre x W, J pre W → pre.length < N → YieldAt Fence.wide m Tryd.prog l (TopT.encs x) W fun e W' => (e = .returned (.bool true) ∧ J (pre ++ [x]) W' ∧ KpV p W W') ∨ (e = .returned (.bool false) ∧ Jx (pre ++ [x]) W')) :
    ∀ (d : Nat) (x : ValN d) (L : Nat) (v : Value) (n : Nat) (pre : List (TopT w)) (W : World), ValAt w d v x → KpV p w W → B0 ≤ W.heap.size →
      Blk W yb [.func (.yield l) #[] #[]] 139 → Blk W ib [.func (.func 100) #[] #[.pointer (some ⟨yb, 0, none⟩), .pointer (some ⟨ib, 0, none⟩)]] 139 →
      J pre W → pre.length + (allV d L x).length ≤ N →
      CallsIn Fence.wide n Tryd.prog 100 #[.int .i64 (lvOf L), v, .pointer (some ⟨yb, 0, none⟩), .pointer (some ⟨ib, 0, none⟩)] W fun e W' =>
        (e = .returned (.bool true) ∧ ∃ ys : List (TopT w), ys.map (·.1.1) = allV d L x ∧ J (pre ++ ys) W' ∧ KpV p W W') ∨ (e = .returned (.bool false) ∧ ∃ ys : List (TopT w), ys.map (·.1.1) <+: allV d L x ∧ Jx (pre ++ ys) W') := by
  intro d
  induction d with
  | zero => intro x L v n pre W h; exact h.elim
  | succ d ih =>
    intro x L v n pre W hv hk hB0 hby hbi hJ hN
    obtain ⟨ka, kl, kc, qa, ql, qc, h⟩ := hv
    have hval := h.val
    subst hval
    have htop := h.top
    obtain ⟨x0, hx0⟩ : ∃ x0 : TopT w, x0.1 = ((L, topF x.to), .agg #[.int .i64 x.to.kind, .int .i64 x.to.n, .string x.to.s, .slice ka kl kc, .slice qa ql qc]) := ⟨⟨_, ka, kl, kc, qa, ql, qc, htop⟩, rfl⟩
    have hkl := h.hlen
    have hkf := h.hfew
    have hkc := h.hcap
    have HH := Lib.hid h
    obtain ⟨lv, hlv⟩ : ∃ z, lvOf L = z := ⟨_, rfl⟩
    obtain ⟨kind, hkd⟩ : ∃ k, x.to.kind = k := ⟨_, rfl⟩
    obtain ⟨nn, hn⟩ : ∃ k, x.to.n = k := ⟨_, rfl⟩
    obtain ⟨s, hs⟩ : ∃ k, x.to.s = k := ⟨_, rfl⟩
    rw [hkd, hn, hs] at hx0 ⊢
    rw [hlv]
    obtain ⟨W1, hW1⟩ : ∃ W1, W.alloc (.cells #[.int .i64 kind, .int .i64 nn, .string s, .slice ka kl kc, .slice qa ql qc] 39) = W1 := ⟨_, rfl⟩
    have hb1 : Below W.heap.size W W1 := by rw [← hW1]; exact (by repeat (first | (with_reducible exact Below.refl _ _) | (with_reducible exact Below.refl _ _) | (with_reducible refine Below.setCell ?_ (by first | omega | (simp; done) | (simp; omega)) _) | (with_reducible refine Below.alloc ?_ (by first | omega | (simp; done) | (simp; omega)) _) | (with_reducible refine Below.drew ?_) | (with_reducible refine below_drewN ?_ _)))
    have hq : Blk W1 W.heap.size [.int .i64 kind, .int .i64 nn, .string s, .slice ka kl kc, .slice qa ql qc] 39 := by rw [← hW1]; exact Blk.new _ _ _
    have hJ1 : J pre W1 := hA pre W W1 none hJ (grownBy_of_belowV hb1) (fun r e => by cases e)
    obtain ⟨fn, tmps, assign, body, hy, hR⟩ := hY (n - 1) pre x0 W1 hJ1 (by simp only [allV_succ, List.length_cons] at hN; omega)
    dsimp only [TopT.encs] at hy
    rw [hx0] at hy
    dsimp only at hy
    rw [hlv] at hy
    have q1 := hq.cells
    have l1 := hq.lt
    have hyq := hby.ext hb1
    have q2 := hyq.cells
    have l2 := hyq.lt
    have HR := Lib.hid hR
    have HQ := Lib.hid hq
    have HBY := Lib.hid hby
    have HBI := Lib.hid hbi
    have HB1 := Lib.hid hb1
    have HK := Lib.hid hk
    have HA := Lib.hid hA
    have HX0 := Lib.hid hx0
    have HN := Lib.hid hN
    have HYY := Lib.hid hY
    have HP := Lib.hid hp
    have HP2 := Lib.hid hp2
    have HYB := Lib.hid hyb
    have HIB := Lib.hid hib
    have HIH := Lib.hid ih
    have HLV := Lib.hid hlv
    have HB0 := Lib.hid hB0
    subst hW1
    clear hR hq hby hbi hb1 hk hA hx0 hN hY hp hp2 hyb hib ih hlv hB0 hJ hJ1 hyq h htop hkd hn hs
    refine callsIn_of_wp Tryd.func100 rfl trivial ?_ rfl
    simp only [Tryd.ntmps100, List.size_toArray, List.length_cons, List.length_nil, Nat.reduceAdd, Nat.reduceSub, Array.replicate_succ, Array.replicate_zero, List.push_toArray, List.append_toArray, List.nil_append, List.cons_append]
    gi_wp2_with fail
    refine ⟨fun h => (by cases h), HR.out.mono ?_⟩
    rintro e W2 (⟨rfl, hJ2, hk2⟩ | ⟨rfl, hx2⟩)
    · have HJ2 := Lib.hid hJ2
      have HK2 := Lib.hid (KpV.t (KpV.of_below (p := p) HB1.out) hk2)
      have hq2 := hk2.blk HQ.out (HP2.out _ HB0.out)
      have hs2 := HK2.out.1
      clear q1 l1 q2 l2 hy hJ2 hk2 HR
      have q1 := hq2.cells
      have l1 := hq2.lt
      clear hq2
      gi_wp2_with fail
      clear q1 l1
      gi_loopw [17] (fun ix wr => ∃ (i : Nat) (ys : List (TopT w)), i ≤ kl ∧ ix = .int .i64 (i : Int) ∧ ys.map (·.1.1) = heads d L x i ∧ J (pre ++ ys) wr ∧ KpV p W wr) (fun ix _ => kl - (intOf ix).toNat)
      case atStart => exact ⟨0, [x0], Nat.zero_le _, by go_num, by rw [List.map_cons, HX0.out]; rfl, HJ2.out, HK2.out⟩
      case round =>
        obtain ⟨i, ys, hi, rfl, hys, hJr, hkr⟩ := hrel
        have HYS := Lib.hid hys
        have HJR := Lib.hid hJr
        have HKR := Lib.hid hkr
        clear hys hJr hkr
        by_cases hlt : i < kl
        · have g1 : (i : Int) < (kl : Int) := by omega
          obtain ⟨y, hy⟩ : ∃ y, x.to.kids[i]? = some y := ⟨_, List.getElem?_eq_getElem (by omega)⟩
          obtain ⟨b, o, u0, u1, u2, u3, u4, rfl, hbw, c0, c1, c2, c3, c4, hv⟩ := HH.out.hkid i y hy
          have hsucc := heads_succ (L := L) hy
          have hlen : pre.length + (heads d L x i).length + (allV d (L + 1) y).length ≤ N := by
            obtain ⟨r, hr⟩ := heads_prefix (d := d) (L := L) (x := x) (i + 1)
            have h1 := congrArg List.length hr
            rw [List.length_append, hsucc, List.length_append] at h1
            have := HN.out
            omega
          have hysl : ys.length = (heads d L x i).length := by rw [← HYS.out, List.length_map]
          obtain ⟨d', rfl⟩ : ∃ d', d = d' + 1 := by
            cases d with
            | zero => exact hv.elim
            | succ d => exact ⟨d, rfl⟩
          obtain ⟨a2, n2, m2, a3, n3, m3, hvi⟩ := hv
          have hval := hvi.val
          simp only [Value.agg.injEq, Array.mk.injEq, List.cons.injEq, and_true] at hval
          obtain ⟨rfl, rfl, rfl, rfl, rfl⟩ := hval
          have hkw := KpV.t HK.out HKR.out
          have e0 := hkw.cell c0 (HP.out b hbw)
          have e1 := hkw.cell c1 (HP.out b hbw)
          have e2 := hkw.cell c2 (HP.out b hbw)
          have e3 := hkw.cell c3 (HP.out b hbw)
          have e4 := hkw.cell c4 (HP.out b hbw)
          have HV := Lib.hid (show ValAt w (d' + 1) (.agg #[.int .i64 y.to.kind, .int .i64 y.to.n, .string y.to.s, .slice a2 n2 m2, .slice a3 n3 m3]) y from ⟨a2, n2, m2, a3, n3, m3, hvi⟩)
          have hbyr := HKR.out.blk HBY.out HYB.out
          have hbir := HKR.out.blk HBI.out HIB.out
          have q2 := hbir.cells
          have l2 := hbir.lt
          have hbr : b < wr.heap.size := Nat.lt_of_lt_of_le hbw hkw.1
          have HBR := Lib.hid hbyr
          have HIR := Lib.hid hbir
          have HSU := Lib.hid hsucc
          have HLE := Lib.hid hlen
          have HYL := Lib.hid hysl
          have HLT := Lib.hid hlt
          obtain ⟨kk, hkk⟩ : ∃ k, y.to.kind = k := ⟨_, rfl⟩
          obtain ⟨kn, hkn⟩ : ∃ k, y.to.n = k := ⟨_, rfl⟩
          obtain ⟨ks, hks⟩ : ∃ k, y.to.s = k := ⟨_, rfl⟩
          rw [hkk] at e0 HV
          rw [hkn] at e1 HV
          rw [hks] at e2 HV
          have hlv2 : IntKind.i64.wrap (lv + 1) = lvOf (L + 1) := by rw [← HLV.out]; exact lv_succ L
          have hen := Tryd_enter100
          clear hy hbw c0 c1 c2 c3 c4 hsucc hlen hysl hkw hvi hbyr hbir hlt hkk hkn hks hi
          gi_wp2_with fail
          have bw3 : Below wr.heap.size wr (wr.alloc (.cells #[.int .i64 kk, .int .i64 kn, .string ks, .slice a2 n2 m2, .slice a3 n3 m3] 39)) := (by repeat (first | (with_reducible exact Below.refl _ _) | (with_reducible exact Below.refl _ _) | (with_reducible refine Below.setCell ?_ (by first | omega | (simp; done) | (simp; omega)) _) | (with_reducible refine Below.alloc ?_ (by first | omega | (simp; done) | (simp; omega)) _) | (with_reducible refine Below.drew ?_) | (with_reducible refine below_drewN ?_ _)))
          have hB0r : B0 ≤ wr.heap.size := Nat.le_trans HB0.out HKR.out.1
          have hJ3 := HA.out (pre ++ ys) wr _ none HJR.out (grownBy_of_belowV bw3) (fun r e => by cases e)
          refine ⟨trivial, fun h => (by cases h), (HIH.out y (L + 1) _ (n - 1) (pre ++ ys) _ HV.out (KpV.t HK.out (KpV.t HKR.out (KpV.of_below bw3))) (Nat.le_trans hB0r bw3.size) (HBR.out.ext bw3) (HIR.out.ext bw3) hJ3 (by rw [List.length_append, HYL.out]; exact HLE.out)).mono ?_⟩
          have HW3 := Lib.hid bw3
          clear bw3 hJ3 e0 e1 e2 e3 e4 q2 l2 hbr hen hlv2
          rintro e W4 (⟨rfl, zs, hzs, hJ4, hk4⟩ | ⟨rfl, zs, hzs, hx4⟩)
          · have HZ := Lib.hid hzs
            have HJ4 := Lib.hid hJ4
            have HK4 := Lib.hid (KpV.t HKR.out (KpV.t (KpV.of_below HW3.out) hk4))
            clear hzs hJ4 hk4
            gi_wp2_with fail
            go_roundw
            case rel => exact ⟨i + 1, ys ++ zs, HLT.out, by go_num, by rw [List.map_append, HYS.out, HZ.out, HSU.out], by rw [← List.append_assoc]; exact HJ4.out, HK4.out⟩
            case measure => have := HLT.out; simp [intOf]; omega
          · have HZ := Lib.hid hzs
            have HX4 := Lib.hid hx4
            clear hzs hx4
            gi_wp2
            go_ret
            refine .inr ⟨rfl, ys ++ zs, ?_, by rw [← List.append_assoc]; exact HX4.out⟩
            rw [List.map_append, HYS.out]
            obtain ⟨r, hr⟩ := HZ.out
            obtain ⟨r2, hr2⟩ := heads_prefix (d := d' + 1) (L := L) (x := x) (i + 1)
            exact ⟨r ++ r2, by rw [← hr2, HSU.out, ← hr]; simp⟩
        · have g1 : ¬ (i : Int) < (kl : Int) := by omega
          obtain rfl : i = kl := by omega
          have HE := Lib.hid (heads_all (d := d) (L := L) (x := x) (i := i) (by omega))
          clear hlt hi
          gi_wp2
          go_ret
          exact .inl ⟨rfl, ys, by rw [HYS.out, HE.out], HJR.out, HKR.out⟩
    · gi_wp2
      go_ret
      exact .inr ⟨rfl, [x0], by rw [List.map_cons, HX0.out]; exact heads_prefix (d := d) (L := L) (x := x) 0, hx2⟩
end Go.Proofs.YtmcmknndhppljaaDoor

namespace Go.Proofs.YtmcmknndhppljaaDoor
set_option linter.unusedVariables false
set_option linter.unusedSimpArgs false
open Go.RowKit Go.Dav Go.Shelf
attribute [local go_sem] Gives ite_val ite_val_true Oper.semAt_some

theorem Tryd_vAll (kind n : Int) (s : ByteArray) (ka qa : Option Addr) (kl kc ql qc : Nat) (w : World) :
    Calls Tryd.prog 82 #[.agg #[.int .i64 kind, .int .i64 n, .string s, .slice ka kl kc, .slice qa ql qc]] w fun e w' => e = .returned (.func (.func 99) #[] #[.pointer (some ⟨w.heap.size, 0, none⟩)]) ∧ w' = w.alloc (.cells #[.int .i64 kind, .int .i64 n, .string s, .slice ka kl kc, .slice qa ql qc] 39) := by
  go_enter Tryd.func82, Tryd.ntmps82
  go_wp2
  go_ret
  exact ⟨rfl, rfl⟩

set_option maxRecDepth 100000 in
set_option maxHeartbeats 4000000 in
theorem Tryd_vAll1 (w w1 : World) (p : Nat → Prop) (B : Nat) (d : Nat) (x : ValN d) (kind n : Int) (s : ByteArray) (ka qa : Option Addr) (kl kc ql qc m : Nat) (hp : ∀ b, b < w.heap.size → ¬ p b) (hp2 : ∀ b, w1.heap.size ≤ b → ¬ p b) (hB : Blk w1 B [.int .i64 kind, .int .i64 n, .string s, .slice ka kl kc, .slice qa ql qc] 39)
    (hv : ValAt w d (.agg #[.int .i64 kind, .int .i64 n, .string s, .slice ka kl kc, .slice qa ql qc]) x) (hk : KpV p w w1) :
    SeqStopsK Fence.wide m Tryd.prog 99 #[.pointer (some ⟨B, 0, none⟩)] (TopT.encs (w := w)) (KpV p) (fun xs => xs.map (·.1.1) = allV d 0 x) (fun pre => pre.map (·.1.1) <+: allV d 0 x) (allV d 0 x).length w1 := fun l J Jx W hW hA _ hY hJ0 => by
  have hB1 := hB.ext hW
  have q1 := hB1.cells
  have l1 := hB1.lt
  obtain ⟨W2, hW2⟩ : ∃ W2, (W.alloc (.cells #[.func (.yield l) #[] #[]] 139)).alloc (.cells #[.func (.func 100) #[] #[.pointer (some ⟨W.heap.size, 0, none⟩), .pointer (some ⟨W.heap.size + 1, 0, none⟩)]] 139) = W2 := ⟨_, rfl⟩
  have hb2 : Below W.heap.size W W2 := by rw [← hW2]; exact (by repeat (first | (with_reducible exact Below.refl _ _) | (with_reducible exact Below.refl _ _) | (with_reducible refine Below.setCell ?_ (by first | omega | (simp; done) | (simp; omega)) _) | (with_reducible refine Below.alloc ?_ (by first | omega | (simp; done) | (simp; omega)) _) | (with_reducible refine Below.drew ?_) | (with_reducible refine below_drewN ?_ _)))
  have hby : Blk W2 W.heap.size [.func (.yield l) #[] #[]] 139 := by rw [← hW2]; exact (Blk.new _ _ _).alloc _
  have hbi : Blk W2 (W.heap.size + 1) [.func (.func 100) #[] #[.pointer (some ⟨W.heap.size, 0, none⟩), .pointer (some ⟨W.heap.size + 1, 0, none⟩)]] 139 := by rw [← hW2]; exact Blk.new' _ _ _ (by simp)
  have hs2 := hW.size
  have hin := Tryd_into w p l W.heap.size (W.heap.size + 1) (allV d 0 x).length W.heap.size J Jx hp (fun b hb => hp2 b (by omega)) (hp2 _ (by omega)) (hp2 _ (by omega)) hA (fun m' pre y W' h1 h2 => YieldAt.anyD rfl m' (hY pre y W' h1 h2)) d x 0 (.agg #[.int .i64 kind, .int .i64 n, .string s, .slice ka kl kc, .slice qa ql qc]) (m - 1) [] W2 hv
    (KpV.t hk (KpV.t (KpV.of_below hW) (KpV.of_below hb2))) hb2.size hby hbi (hA [] W W2 none hJ0 (grownBy_of_belowV hb2) (fun r e => by cases e)) (by simp)
  rw [show lvOf 0 = 0 from by decide] at hin
  have HIN := Lib.hid hin
  subst hW2
  have hen := Tryd_enter100
  clear hin hB hB1 hW hA hY hJ0 hb2 hby hbi hv hk hp hp2
  refine callsIn_of_wp Tryd.func99 rfl trivial ?_ rfl
  simp only [Tryd.ntmps99, List.size_toArray, List.length_cons, List.length_nil, Nat.reduceAdd, Nat.reduceSub, Array.replicate_succ, Array.replicate_zero, List.push_toArray, List.append_toArray, List.nil_append, List.cons_append]
  gi_wp2_with fail
  refine ⟨trivial, fun h => (by cases h), HIN.out.mono ?_⟩
  rintro e W4 (⟨rfl, zs, hzs, hJ4, hk4⟩ | ⟨rfl, zs, hzs, hx4⟩)
  · have HZ := Lib.hid hzs
    have HJ4 := Lib.hid hJ4
    clear hzs hJ4 hk4 q1 l1
    gi_wp2
    go_end0
    exact ⟨⟨_, rfl⟩, .inl ⟨zs, HZ.out, by have h := HJ4.out; rw [List.nil_append] at h; exact h⟩⟩
  · have HZ := Lib.hid hzs
    have HX4 := Lib.hid hx4
    clear hzs hx4 q1 l1
    gi_wp2
    go_end0
    exact ⟨⟨_, rfl⟩, .inr ⟨zs, HZ.out, by have h := HX4.out; rw [List.nil_append] at h; exact h⟩⟩
end Go.Proofs.YtmcmknndhppljaaDoor
