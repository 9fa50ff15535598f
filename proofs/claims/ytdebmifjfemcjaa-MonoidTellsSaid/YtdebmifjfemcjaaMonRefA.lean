/-
  The reference of layer 13, walked: Of, Add, Whole, Less, Times.
-/
import Derived.Test.YtdebmifjfemcjaaProg
import Derived.Test.YtdebmifjfemcjaaBlk
import Derived.Test.YtdebmifjfemcjaaMonSum
import Derived.WalkKit
import Derived.WalkSpells
import Derived.WalkLawsBesides
import Derived.Lib.Hide
namespace Go.Proofs.Ytdebmifjfemcjaa
set_option linter.unusedVariables false
set_option linter.unusedSimpArgs false
open Go.RowKit Go.Dav
attribute [local go_sem] Gives ite_val ite_val_true

theorem Try_rOf (n : Int) (w : World) (h : I64 n) :
    Calls Try.prog 30 #[.int .i64 n] w fun e w' => e = .returned (.agg #[.int .i64 (hi n), .int .u64 (lo n)]) ∧ Below w.heap.size w w' := by
  have e2 := lo_of n
  by_cases hn : n < 0
  · rw [hi_neg h hn]
    clear h
    have H2 := Lib.hid e2; clear e2
    go_enter Try.func30, Try.ntmps30
    go_wp2
    refine bodyPost_ret (v := .agg #[.int .i64 (-1), .int .u64 (lo n)]) (by simp [results, Try.results30, go_sem, H2.out]) rfl ⟨rfl, ?_⟩
    exact (by repeat (first | (with_reducible exact Below.refl _ _) | (with_reducible exact Below.refl _ _) | (with_reducible refine Below.setCell ?_ (by first | omega | (simp; done) | (simp; omega)) _) | (with_reducible refine Below.alloc ?_ (by first | omega | (simp; done) | (simp; omega)) _) | (with_reducible refine Below.drew ?_) | (with_reducible refine below_drewN ?_ _)))
  · rw [hi_pos h hn]
    clear h
    have H2 := Lib.hid e2; clear e2
    go_enter Try.func30, Try.ntmps30
    go_wp2
    refine bodyPost_ret (v := .agg #[.int .i64 0, .int .u64 (lo n)]) (by simp [results, Try.results30, go_sem, H2.out]) rfl ⟨rfl, ?_⟩
    exact (by repeat (first | (with_reducible exact Below.refl _ _) | (with_reducible exact Below.refl _ _) | (with_reducible refine Below.setCell ?_ (by first | omega | (simp; done) | (simp; omega)) _) | (with_reducible refine Below.alloc ?_ (by first | omega | (simp; done) | (simp; omega)) _) | (with_reducible refine Below.drew ?_) | (with_reducible refine below_drewN ?_ _)))

theorem Try_rWhole (c n s l m : Int) (w : World) :
    Calls Try.prog 29 #[.agg #[.int .i64 c, .int .i64 n, .int .i64 (hi s), .int .u64 (lo s), .int .i64 l, .int .i64 m]] w fun e w' =>
      e = .returned (.agg #[.int .i64 (hi s), .int .u64 (lo s)]) ∧ Below w.heap.size w w' := by
  go_enter Try.func29, Try.ntmps29
  go_wp2
  refine bodyPost_ret (v := .agg #[.int .i64 (hi s), .int .u64 (lo s)]) (by simp [results, Try.results29, go_sem]) rfl ⟨rfl, ?_⟩
  exact (by repeat (first | (with_reducible exact Below.refl _ _) | (with_reducible exact Below.refl _ _) | (with_reducible refine Below.setCell ?_ (by first | omega | (simp; done) | (simp; omega)) _) | (with_reducible refine Below.alloc ?_ (by first | omega | (simp; done) | (simp; omega)) _) | (with_reducible refine Below.drew ?_) | (with_reducible refine below_drewN ?_ _)))

theorem Try_rAdd (x y : Int) (w : World) :
    Calls Try.prog 31 #[.agg #[.int .i64 (hi x), .int .u64 (lo x)], .agg #[.int .i64 (hi y), .int .u64 (lo y)]] w fun e w' =>
      e = .returned (.agg #[.int .i64 (hi (x + y)), .int .u64 (lo (x + y))]) ∧ Below w.heap.size w w' := by
  have el := lo_add x y
  have en := notLo_eq x
  by_cases h : notLo x < lo y
  · have e1 := carry_yes x y h
    go_enter Try.func31, Try.ntmps31
    go_wp2
    refine bodyPost_ret (v := .agg #[.int .i64 (hi (x + y)), .int .u64 (lo (x + y))]) (by simp [results, Try.results31, go_sem]) rfl ⟨rfl, ?_⟩
    exact (by repeat (first | (with_reducible exact Below.refl _ _) | (with_reducible exact Below.refl _ _) | (with_reducible refine Below.setCell ?_ (by first | omega | (simp; done) | (simp; omega)) _) | (with_reducible refine Below.alloc ?_ (by first | omega | (simp; done) | (simp; omega)) _) | (with_reducible refine Below.drew ?_) | (with_reducible refine below_drewN ?_ _)))
  · have e1 := hi_add_no' x y h
    have e2 := wrap64_hi (x + y)
    go_enter Try.func31, Try.ntmps31
    go_wp2
    refine bodyPost_ret (v := .agg #[.int .i64 (hi (x + y)), .int .u64 (lo (x + y))]) (by simp [results, Try.results31, go_sem]) rfl ⟨rfl, ?_⟩
    exact (by repeat (first | (with_reducible exact Below.refl _ _) | (with_reducible exact Below.refl _ _) | (with_reducible refine Below.setCell ?_ (by first | omega | (simp; done) | (simp; omega)) _) | (with_reducible refine Below.alloc ?_ (by first | omega | (simp; done) | (simp; omega)) _) | (with_reducible refine Below.drew ?_) | (with_reducible refine below_drewN ?_ _)))

theorem Try_rLess (x y : Int) (w : World) :
    Calls Try.prog 33 #[.agg #[.int .i64 (hi x), .int .u64 (lo x)], .agg #[.int .i64 (hi y), .int .u64 (lo y)]] w fun e w' =>
      e = .returned (.bool (aboveB y x)) ∧ Below w.heap.size w w' := by
  rw [← less_key]
  generalize hi x = a
  generalize hi y = b
  generalize lo x = c
  generalize lo y = d
  by_cases g : a = b
  · rw [if_pos g]
    subst g
    go_enter Try.func33, Try.ntmps33
    go_wp2
    go_ret
    exact ⟨rfl, (by repeat (first | (with_reducible exact Below.refl _ _) | (with_reducible exact Below.refl _ _) | (with_reducible refine Below.setCell ?_ (by first | omega | (simp; done) | (simp; omega)) _) | (with_reducible refine Below.alloc ?_ (by first | omega | (simp; done) | (simp; omega)) _) | (with_reducible refine Below.drew ?_) | (with_reducible refine below_drewN ?_ _)))⟩
  · rw [if_neg g]
    have g3 : (a == b) = false := by simpa using g
    go_enter Try.func33, Try.ntmps33
    go_wp2
    go_ret
    exact ⟨rfl, (by repeat (first | (with_reducible exact Below.refl _ _) | (with_reducible exact Below.refl _ _) | (with_reducible refine Below.setCell ?_ (by first | omega | (simp; done) | (simp; omega)) _) | (with_reducible refine Below.alloc ?_ (by first | omega | (simp; done) | (simp; omega)) _) | (with_reducible refine Below.drew ?_) | (with_reducible refine below_drewN ?_ _)))⟩

set_option maxHeartbeats 4000000 in
theorem Try_rTimes (f : Nat) : ∀ (x k : Int) (w : World), k ≤ f → I64 x → 0 ≤ k → I64 k →
    Calls Try.prog 32 #[.int .i64 x, .int .i64 k] w fun e w' => e = .returned (.agg #[.int .i64 (hi (x * k)), .int .u64 (lo (x * k))]) ∧ Below w.heap.size w w' := by
  induction f with
  | zero =>
    intro x k w hk hx h0 _
    obtain rfl : k = 0 := by omega
    rw [Int.mul_zero, hi_zero, lo_zero]
    clear hx hk h0
    go_enter Try.func32, Try.ntmps32
    go_wp2
    refine bodyPost_ret (v := .agg #[.int .i64 0, .int .u64 0]) (by simp [results, Try.results32, go_sem]) rfl ⟨rfl, ?_⟩
    exact (by repeat (first | (with_reducible exact Below.refl _ _) | (with_reducible exact Below.refl _ _) | (with_reducible refine Below.setCell ?_ (by first | omega | (simp; done) | (simp; omega)) _) | (with_reducible refine Below.alloc ?_ (by first | omega | (simp; done) | (simp; omega)) _) | (with_reducible refine Below.drew ?_) | (with_reducible refine below_drewN ?_ _)))
  | succ f ih =>
    intro x k w hk hx h0 hk64
    by_cases hz : k = 0
    · subst hz
      rw [Int.mul_zero, hi_zero, lo_zero]
      clear hx hk h0 ih
      go_enter Try.func32, Try.ntmps32
      go_wp2
      refine bodyPost_ret (v := .agg #[.int .i64 0, .int .u64 0]) (by simp [results, Try.results32, go_sem]) rfl ⟨rfl, ?_⟩
      exact (by repeat (first | (with_reducible exact Below.refl _ _) | (with_reducible exact Below.refl _ _) | (with_reducible refine Below.setCell ?_ (by first | omega | (simp; done) | (simp; omega)) _) | (with_reducible refine Below.alloc ?_ (by first | omega | (simp; done) | (simp; omega)) _) | (with_reducible refine Below.drew ?_) | (with_reducible refine below_drewN ?_ _)))
    · have hpos : 0 < k := by omega
      have g1 : k / 2 ≤ f := by omega
      have g2 : 0 ≤ k / 2 := by omega
      have g3 : I64 (k / 2) := by unfold I64 at *; omega
      have q1 := half_div h0 hk64
      have q2 := half_mod h0
      have q3 := half_mod' (k := k)
      have IH := Lib.hid (ih x (k / 2)); clear ih
      have K1 := Lib.hid hk; clear hk
      have G1 := Lib.hid g1; clear g1
      by_cases hodd : k % 2 = 1
      · have e1 : x * (k / 2) + x * (k / 2) + x = x * k := by
          have hk2 : k = 2 * (k / 2) + 1 := by omega
          conv => rhs; rw [hk2, Int.mul_add, Int.mul_left_comm]
          omega
        have E1 := Lib.hid e1; clear e1
        have Ho := Lib.hid hodd
        have hodd' : (k % 2 == 1) = true := by simpa using hodd
        clear hodd
        go_enter Try.func32, Try.ntmps32
        go_wp2_with fail
        (with_reducible refine (IH.out _ G1.out hx g2 g3).mono ?_); rintro e w1 ⟨rfl, hb1⟩; obtain ⟨hc1, hf1, hs1⟩ := after hb1
        simp at hs1
        have lt_w1_0_0 : w.heap.size < w1.heap.size := by omega
        have lt_w1_0_1 : w.heap.size < w1.heap.size + 1 := by omega
        have lt_w1_0_2 : w.heap.size < w1.heap.size + 1 + 1 := by omega
        go_wp2_with fail
        refine (Try_rAdd _ _ _).mono ?_; rintro e w2 ⟨rfl, hb2⟩; obtain ⟨hc2, hf2, hs2⟩ := after hb2
        simp at hs2
        have lt_w2_0_0 : w.heap.size < w2.heap.size := by omega
        have lt_w2_0_1 : w.heap.size < w2.heap.size + 1 := by omega
        have lt_w2_0_2 : w.heap.size < w2.heap.size + 1 + 1 := by omega
        have lt_w2_1_0 : w1.heap.size < w2.heap.size := by omega
        have lt_w2_1_1 : w1.heap.size < w2.heap.size + 1 := by omega
        have lt_w2_1_2 : w1.heap.size < w2.heap.size + 1 + 1 := by omega
        go_wp2_with fail
        refine' wp_region_seq [.inl _, .inl _, .inl _, .inl _] (by kernel_rfl) (by kernel_rfl) ?main1
        case main1 =>
          refine wpParts_det (by rfl) (fun W hE hN => ?_) ?_
          · have hc := fun b o h => hE.cell (p := ⟨b, o, none⟩) h
            go_simp; refine ⟨Below.refl _ _, ?_⟩; rfl
          simp only [Act.put, List.setIfInBounds_toArray, List.set_cons_zero, List.set_cons_succ]
          refine wpParts_det (by rfl) (fun W hE hN => ?_) ?_
          · go_simp; refine ⟨Below.refl _ _, ?_⟩; rfl
          simp only [Act.put, List.setIfInBounds_toArray, List.set_cons_zero, List.set_cons_succ]
          refine wpParts_det (by rfl) (fun W hE hN => ?_) ?_
          · go_simp; refine ⟨Below.refl _ _, ?_⟩; refine (Try_rOf _ _ hx).mono ?_; rintro e w' ⟨rfl, hb⟩; refine ⟨?_, hb⟩; rfl
          simp only [Act.put, List.setIfInBounds_toArray, List.set_cons_zero, List.set_cons_succ]
          refine wpParts_det (by rfl) (fun W hE hN => ?_) ?_
          · go_simp; refine ⟨Below.refl _ _, ?_⟩; refine (Try_rAdd _ _ _).mono ?_; rintro e w' ⟨rfl, hb⟩; refine ⟨?_, hb⟩; rfl
          simp only [Act.put, List.setIfInBounds_toArray, List.set_cons_zero, List.set_cons_succ]
          refine wpParts_end fun W3 hE3 hG3 => ?_
          have hcW3 := fun b o h => hE3.cell (p := ⟨b, o, none⟩) h
          have hfW3 := fun b o h => hE3.frozen (p := ⟨b, o, none⟩) h
          have s3 := hE3.size
          simp at s3
          have lt_W3_0_0 : w.heap.size < W3.heap.size := by omega
          have lt_W3_0_1 : w.heap.size < W3.heap.size + 1 := by omega
          have lt_W3_0_2 : w.heap.size < W3.heap.size + 1 + 1 := by omega
          have lt_W3_1_0 : w1.heap.size < W3.heap.size := by omega
          have lt_W3_1_1 : w1.heap.size < W3.heap.size + 1 := by omega
          have lt_W3_1_2 : w1.heap.size < W3.heap.size + 1 + 1 := by omega
          have lt_W3_2_0 : w2.heap.size < W3.heap.size := by omega
          have lt_W3_2_1 : w2.heap.size < W3.heap.size + 1 := by omega
          have lt_W3_2_2 : w2.heap.size < W3.heap.size + 1 + 1 := by omega
          go_wp2_with fail
          rw [← E1.out]
          refine bodyPost_ret (v := .agg #[.int .i64 (hi (x * (k / 2) + x * (k / 2) + x)), .int .u64 (lo (x * (k / 2) + x * (k / 2) + x))]) (by simp [results, Try.results32, go_sem, *]) rfl ⟨rfl, ?_⟩
          exact (by repeat (first | (with_reducible exact Below.refl _ _) | (with_reducible exact Below.refl _ _) | (with_reducible refine Below.setCell ?_ (by first | omega | (simp; done) | (simp; omega)) _) | (with_reducible refine Below.alloc ?_ (by first | omega | (simp; done) | (simp; omega)) _) | (with_reducible refine Below.drew ?_) | (with_reducible refine below_drewN ?_ _) | (with_reducible refine Below.trans ?_ (hE3.mono (by first | omega | (simp; done) | (simp; omega)))) | (with_reducible refine Below.trans ?_ (hb2.mono (by first | omega | (simp; done) | (simp; omega)))) | (with_reducible refine Below.trans ?_ (hb1.mono (by first | omega | (simp; done) | (simp; omega))))))
      · have hev : k % 2 = 0 := by omega
        have e1 : x * (k / 2) + x * (k / 2) = x * k := by
          have hk2 : k = 2 * (k / 2) := by omega
          conv => rhs; rw [hk2, Int.mul_left_comm]
          omega
        have E1 := Lib.hid e1; clear e1
        have hodd' : (k % 2 == 1) = false := by simpa using hodd
        clear hodd hev
        go_enter Try.func32, Try.ntmps32
        go_wp2_with fail
        (with_reducible refine (IH.out _ G1.out hx g2 g3).mono ?_); rintro e w1 ⟨rfl, hb1⟩; obtain ⟨hc1, hf1, hs1⟩ := after hb1
        simp at hs1
        have lt_w1_0_0 : w.heap.size < w1.heap.size := by omega
        have lt_w1_0_1 : w.heap.size < w1.heap.size + 1 := by omega
        have lt_w1_0_2 : w.heap.size < w1.heap.size + 1 + 1 := by omega
        go_wp2_with fail
        refine (Try_rAdd _ _ _).mono ?_; rintro e w2 ⟨rfl, hb2⟩; obtain ⟨hc2, hf2, hs2⟩ := after hb2
        simp at hs2
        have lt_w2_0_0 : w.heap.size < w2.heap.size := by omega
        have lt_w2_0_1 : w.heap.size < w2.heap.size + 1 := by omega
        have lt_w2_0_2 : w.heap.size < w2.heap.size + 1 + 1 := by omega
        have lt_w2_1_0 : w1.heap.size < w2.heap.size := by omega
        have lt_w2_1_1 : w1.heap.size < w2.heap.size + 1 := by omega
        have lt_w2_1_2 : w1.heap.size < w2.heap.size + 1 + 1 := by omega
        go_wp2_with fail
        rw [← E1.out]
        refine bodyPost_ret (v := .agg #[.int .i64 (hi (x * (k / 2) + x * (k / 2))), .int .u64 (lo (x * (k / 2) + x * (k / 2)))]) (by simp [results, Try.results32, go_sem, *]) rfl ⟨rfl, ?_⟩
        exact (by repeat (first | (with_reducible exact Below.refl _ _) | (with_reducible exact Below.refl _ _) | (with_reducible refine Below.setCell ?_ (by first | omega | (simp; done) | (simp; omega)) _) | (with_reducible refine Below.alloc ?_ (by first | omega | (simp; done) | (simp; omega)) _) | (with_reducible refine Below.drew ?_) | (with_reducible refine below_drewN ?_ _) | (with_reducible refine Below.trans ?_ (hb2.mono (by first | omega | (simp; done) | (simp; omega)))) | (with_reducible refine Below.trans ?_ (hb1.mono (by first | omega | (simp; done) | (simp; omega))))))
end Go.Proofs.Ytdebmifjfemcjaa
