/-
  The reference of layer 13: One and Both, walked.
-/
import Derived.Test.YtfhhcpolicdfpaaNdB
namespace Go.Proofs.Ytfhhcpolicdfpaa
set_option linter.unusedVariables false
set_option linter.unusedSimpArgs false
open Go.RowKit Go.Dav
attribute [local go_sem] Gives ite_val ite_val_true

theorem Try_rOne_no (k v : Value) (x : Int) (w : World) :
    Calls Try.prog 69 #[.agg #[k, v, .bool false, .int .i64 x]] w fun e w' =>
      e = .returned (.agg #[.int .i64 1, .int .i64 0, .int .i64 (hi 0), .int .u64 (lo 0), .int .i64 0, .int .i64 0]) ∧ Below w.heap.size w w' := by
  go_enter Try.func69, Try.ntmps69
  go_wp2
  refine bodyPost_ret (v := .agg #[.int .i64 1, .int .i64 0, .int .i64 0, .int .u64 0, .int .i64 0, .int .i64 0]) (by simp [results, Try.results69, go_sem]) rfl ⟨by rw [hi_zero, lo_zero], ?_⟩
  exact (by repeat (first | (with_reducible exact Below.refl _ _) | (with_reducible exact Below.refl _ _) | (with_reducible refine Below.setCell ?_ (by first | omega | (simp; done) | (simp; omega)) _) | (with_reducible refine Below.alloc ?_ (by first | omega | (simp; done) | (simp; omega)) _) | (with_reducible refine Below.drew ?_) | (with_reducible refine below_drewN ?_ _)))

theorem Try_rOne_yes (k v : Value) (x : Int) (w : World) (hx : I64 x) :
    Calls Try.prog 69 #[.agg #[k, v, .bool true, .int .i64 x]] w fun e w' =>
      e = .returned (.agg #[.int .i64 1, .int .i64 1, .int .i64 (hi x), .int .u64 (lo x), .int .i64 x, .int .i64 x]) ∧ Below w.heap.size w w' := by
  go_enter Try.func69, Try.ntmps69
  go_wp2_with fail
  refine (Try_rOf _ _ hx).mono ?_; rintro e w1 ⟨rfl, hb1⟩; obtain ⟨hc1, hf1, hs1⟩ := after hb1
  simp at hs1
  have lt_w1_0_0 : w.heap.size < w1.heap.size := by omega
  have lt_w1_0_1 : w.heap.size < w1.heap.size + 1 := by omega
  have lt_w1_0_2 : w.heap.size < w1.heap.size + 1 + 1 := by omega
  have lt_w1_1_0 : w.heap.size + 1 < w1.heap.size := by omega
  have lt_w1_1_1 : w.heap.size + 1 < w1.heap.size + 1 := by omega
  have lt_w1_1_2 : w.heap.size + 1 < w1.heap.size + 1 + 1 := by omega
  have lt_w1_2_0 : w.heap.size + 1 + 1 < w1.heap.size := by omega
  have lt_w1_2_1 : w.heap.size + 1 + 1 < w1.heap.size + 1 := by omega
  have lt_w1_2_2 : w.heap.size + 1 + 1 < w1.heap.size + 1 + 1 := by omega
  go_wp2_with fail
  refine bodyPost_ret (v := .agg #[.int .i64 1, .int .i64 1, .int .i64 (hi x), .int .u64 (lo x), .int .i64 x, .int .i64 x]) (by simp [results, Try.results69, go_sem, *]) rfl ⟨rfl, ?_⟩
  exact (by repeat (first | (with_reducible exact Below.refl _ _) | (with_reducible exact Below.refl _ _) | (with_reducible refine Below.setCell ?_ (by first | omega | (simp; done) | (simp; omega)) _) | (with_reducible refine Below.alloc ?_ (by first | omega | (simp; done) | (simp; omega)) _) | (with_reducible refine Below.drew ?_) | (with_reducible refine below_drewN ?_ _) | (with_reducible refine Below.trans ?_ (hb1.mono (by first | omega | (simp; done) | (simp; omega))))))

set_option maxRecDepth 4000 in
set_option maxHeartbeats 4000000 in
theorem Try_rBoth (c1 n1 s1 l1 m1 c2 n2 s2 l2 m2 : Int) (w : World) (h1 : 0 ≤ n1) (h2 : 0 ≤ n2) (hc : IntKind.i64.wrap (c1 + c2) = c1 + c2) (hn : IntKind.i64.wrap (n1 + n2) = n1 + n2)
    (hz2 : n2 = 0 → s2 = 0) (hz1 : n1 = 0 → l1 = 0 ∧ m1 = 0) :
    Calls Try.prog 58 #[.agg #[.int .i64 c1, .int .i64 n1, .int .i64 (hi s1), .int .u64 (lo s1), .int .i64 l1, .int .i64 m1], .agg #[.int .i64 c2, .int .i64 n2, .int .i64 (hi s2), .int .u64 (lo s2), .int .i64 l2, .int .i64 m2]] w fun e w' =>
      e = .returned (.agg #[.int .i64 (c1 + c2), .int .i64 (bothN n1 n2), .int .i64 (hi (bothS n2 s1 s2)), .int .u64 (lo (bothS n2 s1 s2)), .int .i64 (bothL n1 n2 l1 l2), .int .i64 (bothM n1 n2 m1 m2)]) ∧ Below w.heap.size w w' := by
  have e1 : bothN n1 n2 = n1 + n2 := by unfold bothN; split <;> omega
  have e2 : bothS n2 s1 s2 = s1 + s2 := by unfold bothS; split <;> omega
  have e3 : bothL n1 n2 l1 l2 = if 0 < n1 then (if 0 < n2 then min l1 l2 else l1) else (if 0 < n2 then l2 else 0) := by
    unfold bothL
    by_cases a : n2 = 0
    · subst a
      by_cases b : 0 < n1
      · simp [b]
      · have := hz1 (by omega); simp [b, this]
    · have : 0 < n2 := by omega
      simp [a, this]
  have e4 : bothM n1 n2 m1 m2 = if 0 < n1 then (if 0 < n2 then max m1 m2 else m1) else (if 0 < n2 then m2 else 0) := by
    unfold bothM
    by_cases a : n2 = 0
    · subst a
      by_cases b : 0 < n1
      · simp [b]
      · have := hz1 (by omega); simp [b, this]
    · have : 0 < n2 := by omega
      simp [a, this]
  rw [e1, e2]
  generalize bothL n1 n2 l1 l2 = L at *
  generalize bothM n1 n2 m1 m2 = M at *
  have E3 := Lib.hid e3; clear e3
  have E4 := Lib.hid e4; clear e4
  clear e1 e2 hz1 hz2
  go_enter Try.func58, Try.ntmps58
  go_wp2_with fail
  refine' wp_region_seq [.inl _, .inl _, .inl _, .inl _, .inl _, .inr (NewBlk (w.heap.size + 1 + 1 + 1) [.int .i64 0, .int .u64 0] 122)] (by kernel_rfl) (by kernel_rfl) ?main1
  case main1 =>
    refine wpParts_det (by rfl) (fun W hE hN => ?_) ?_
    · have hc := fun b o h => hE.cell (p := ⟨b, o, none⟩) h
      go_simp; refine ⟨Below.refl _ _, ?_⟩; rfl
    simp only [Act.put, List.setIfInBounds_toArray, List.set_cons_zero, List.set_cons_succ]
    refine wpParts_det (by rfl) (fun W hE hN => ?_) ?_
    · go_simp; refine ⟨Below.refl _ _, ?_⟩; refine (Try_rWhole _ _ _ _ _ _).mono ?_; rintro e w' ⟨rfl, hb⟩; refine ⟨?_, hb⟩; rfl
    simp only [Act.put, List.setIfInBounds_toArray, List.set_cons_zero, List.set_cons_succ]
    refine wpParts_det (by rfl) (fun W hE hN => ?_) ?_
    · have hc := fun b o h => hE.cell (p := ⟨b, o, none⟩) h
      go_simp; refine ⟨Below.refl _ _, ?_⟩; rfl
    simp only [Act.put, List.setIfInBounds_toArray, List.set_cons_zero, List.set_cons_succ]
    refine wpParts_det (by rfl) (fun W hE hN => ?_) ?_
    · go_simp; refine ⟨Below.refl _ _, ?_⟩; refine (Try_rWhole _ _ _ _ _ _).mono ?_; rintro e w' ⟨rfl, hb⟩; refine ⟨?_, hb⟩; rfl
    simp only [Act.put, List.setIfInBounds_toArray, List.set_cons_zero, List.set_cons_succ]
    refine wpParts_det (by rfl) (fun W hE hN => ?_) ?_
    · go_simp; refine ⟨Below.refl _ _, ?_⟩; refine (Try_rAdd _ _ _).mono ?_; rintro e w' ⟨rfl, hb⟩; refine ⟨?_, hb⟩; rfl
    simp only [Act.put, List.setIfInBounds_toArray, List.set_cons_zero, List.set_cons_succ]
    refine wpParts_any rfl (NewBlk.later) (by rfl) (fun W hE hN => ?_) (fun u5 => ?_)
    · go_simp; exact newBlk_alloc (cs := [.int .i64 0, .int .u64 0]) (by have := hE.size; simp at this; omega)
    simp only [Act.put, List.setIfInBounds_toArray, List.set_cons_zero, List.set_cons_succ]
    refine wpParts_end fun W1 hE1 hG1 => ?_
    have hcW1 := fun b o h => hE1.cell (p := ⟨b, o, none⟩) h
    have hfW1 := fun b o h => hE1.frozen (p := ⟨b, o, none⟩) h
    obtain ⟨p, rfl, hp, hblk⟩ := hG1.1
    have s1' := hE1.size
    simp at s1'
    have c0 := hblk.cell 0 rfl
    have c1' := hblk.cell 1 rfl
    have f0 := hblk.frozen 0
    have f1 := hblk.frozen 1
    have lp := hblk.lt
    have nwp : w.heap.size ≠ p := by omega
    have nwp1 : w.heap.size + 1 ≠ p := by omega
    have nwp2 : w.heap.size + 1 + 1 ≠ p := by omega
    have lt_W1_0_0 : w.heap.size < W1.heap.size := by omega
    have lt_W1_0_1 : w.heap.size < W1.heap.size + 1 := by omega
    have lt_W1_1_0 : w.heap.size + 1 < W1.heap.size := by omega
    have lt_W1_1_1 : w.heap.size + 1 < W1.heap.size + 1 := by omega
    have lt_W1_2_0 : w.heap.size + 1 + 1 < W1.heap.size := by omega
    have lt_W1_2_1 : w.heap.size + 1 + 1 < W1.heap.size + 1 := by omega
    have lt_W1_3_0 : p < W1.heap.size := by omega
    have lt_W1_3_1 : p < W1.heap.size + 1 := by omega
    by_cases g1 : 0 < n1
    · have g1' : (n1 == 0) = false := by simp; omega
      by_cases g2 : 0 < n2
      · rw [if_pos g1, if_pos g2] at E3 E4
        go_wp2
        all_goals
          refine bodyPost_ret (v := .agg #[.int .i64 (c1 + c2), .int .i64 (n1 + n2), .int .i64 (hi (s1 + s2)), .int .u64 (lo (s1 + s2)), .int .i64 L, .int .i64 M]) (by have q1 := E3.out; have q2 := E4.out; simp [results, Try.results58, go_sem, hcW1, lt_W1_2_0] <;> omega) rfl ⟨rfl, ?_⟩
          exact (by repeat (first | (with_reducible exact Below.refl _ _) | (with_reducible exact Below.refl _ _) | (with_reducible refine Below.setCell ?_ (by first | omega | (simp; done) | (simp; omega)) _) | (with_reducible refine Below.alloc ?_ (by first | omega | (simp; done) | (simp; omega)) _) | (with_reducible refine Below.drew ?_) | (with_reducible refine below_drewN ?_ _) | (with_reducible refine Below.trans ?_ (hE1.mono (by first | omega | (simp; done) | (simp; omega))))))
      · have g2' : decide (0 < n2) = false := by simpa using g2
        rw [if_pos g1, if_neg g2] at E3 E4
        go_wp2
        refine bodyPost_ret (v := .agg #[.int .i64 (c1 + c2), .int .i64 (n1 + n2), .int .i64 (hi (s1 + s2)), .int .u64 (lo (s1 + s2)), .int .i64 L, .int .i64 M]) (by rw [E3.out, E4.out]; simp [results, Try.results58, go_sem, hcW1, lt_W1_2_0]) rfl ⟨rfl, ?_⟩
        exact (by repeat (first | (with_reducible exact Below.refl _ _) | (with_reducible exact Below.refl _ _) | (with_reducible refine Below.setCell ?_ (by first | omega | (simp; done) | (simp; omega)) _) | (with_reducible refine Below.alloc ?_ (by first | omega | (simp; done) | (simp; omega)) _) | (with_reducible refine Below.drew ?_) | (with_reducible refine below_drewN ?_ _) | (with_reducible refine Below.trans ?_ (hE1.mono (by first | omega | (simp; done) | (simp; omega))))))
    · have g1' : (n1 == 0) = true := by simp; omega
      have g1d : decide (0 < n1) = false := by simpa using g1
      by_cases g2 : 0 < n2
      · rw [if_neg g1, if_pos g2] at E3 E4
        go_wp2
        refine bodyPost_ret (v := .agg #[.int .i64 (c1 + c2), .int .i64 (n1 + n2), .int .i64 (hi (s1 + s2)), .int .u64 (lo (s1 + s2)), .int .i64 L, .int .i64 M]) (by rw [E3.out, E4.out]; simp [results, Try.results58, go_sem, hcW1, lt_W1_2_0]) rfl ⟨rfl, ?_⟩
        exact (by repeat (first | (with_reducible exact Below.refl _ _) | (with_reducible exact Below.refl _ _) | (with_reducible refine Below.setCell ?_ (by first | omega | (simp; done) | (simp; omega)) _) | (with_reducible refine Below.alloc ?_ (by first | omega | (simp; done) | (simp; omega)) _) | (with_reducible refine Below.drew ?_) | (with_reducible refine below_drewN ?_ _) | (with_reducible refine Below.trans ?_ (hE1.mono (by first | omega | (simp; done) | (simp; omega))))))
      · have g2' : decide (0 < n2) = false := by simpa using g2
        rw [if_neg g1, if_neg g2] at E3 E4
        go_wp2
        refine bodyPost_ret (v := .agg #[.int .i64 (c1 + c2), .int .i64 (n1 + n2), .int .i64 (hi (s1 + s2)), .int .u64 (lo (s1 + s2)), .int .i64 L, .int .i64 M]) (by rw [E3.out, E4.out]; simp [results, Try.results58, go_sem, hcW1, lt_W1_2_0]) rfl ⟨rfl, ?_⟩
        exact (by repeat (first | (with_reducible exact Below.refl _ _) | (with_reducible exact Below.refl _ _) | (with_reducible refine Below.setCell ?_ (by first | omega | (simp; done) | (simp; omega)) _) | (with_reducible refine Below.alloc ?_ (by first | omega | (simp; done) | (simp; omega)) _) | (with_reducible refine Below.drew ?_) | (with_reducible refine below_drewN ?_ _) | (with_reducible refine Below.trans ?_ (hE1.mono (by first | omega | (simp; done) | (simp; omega))))))
end Go.Proofs.Ytfhhcpolicdfpaa
