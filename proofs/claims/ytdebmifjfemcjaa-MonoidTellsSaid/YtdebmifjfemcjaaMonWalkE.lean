/-
  Layer 13: One and both, walked.
-/
import Derived.Test.YtdebmifjfemcjaaMonWalkB
namespace Go.Proofs.Ytdebmifjfemcjaa
set_option linter.unusedVariables false
set_option linter.unusedSimpArgs false
open Go.RowKit Go.Dav
attribute [local go_sem] Gives ite_val ite_val_true

theorem Try_One_no (k v : Value) (x : Int) (w : World) (hk : k.cells = #[k]) (hv : v.cells = #[v]) :
    Calls Try.prog 11 #[.agg #[k, v, .bool false, .int .i64 x]] w fun e w' =>
      e = .returned (.agg #[.int .i64 1, .int .i64 0, .int .i64 (hi 0), .int .u64 (lo 0), .int .i64 0, .int .i64 0]) ∧ Below w.heap.size w w' := by
  have Hk := Lib.hid hk; clear hk
  have Hv := Lib.hid hv; clear hv
  go_enter Try.func11, Try.ntmps11
  go_wp2
  refine bodyPost_ret (v := .agg #[.int .i64 1, .int .i64 0, .int .i64 0, .int .u64 0, .int .i64 0, .int .i64 0]) (by simp [results, Try.results11, go_sem]) rfl ⟨by rw [hi_zero, lo_zero], ?_⟩
  exact (by repeat (first | (with_reducible exact Below.refl _ _) | (with_reducible exact Below.refl _ _) | (with_reducible refine Below.setCell ?_ (by first | omega | (simp; done) | (simp; omega)) _) | (with_reducible refine Below.alloc ?_ (by first | omega | (simp; done) | (simp; omega)) _) | (with_reducible refine Below.drew ?_) | (with_reducible refine below_drewN ?_ _)))

theorem Try_One_yes (k v : Value) (x : Int) (w : World) (hx : I64 x) :
    Calls Try.prog 11 #[.agg #[k, v, .bool true, .int .i64 x]] w fun e w' =>
      e = .returned (.agg #[.int .i64 1, .int .i64 1, .int .i64 (hi x), .int .u64 (lo x), .int .i64 x, .int .i64 x]) ∧ Below w.heap.size w w' := by
  go_enter Try.func11, Try.ntmps11
  go_wp2_with fail
  refine' wp_region_seq [.inl _, .inl _, .inl _, .inl _, .inl _, .inl _, .inl _, .inl _, .inl _] (by kernel_rfl) (by kernel_rfl) ?main1
  case main1 =>
    refine wpParts_det (by rfl) (fun W hE hN => ?_) ?_
    · go_simp; refine ⟨Below.refl _ _, ?_⟩; rfl
    simp only [Act.put, List.setIfInBounds_toArray, List.set_cons_zero, List.set_cons_succ]
    refine wpParts_det (by rfl) (fun W hE hN => ?_) ?_
    · have hc := fun b o h => hE.cell (p := ⟨b, o, none⟩) h
      go_simp; refine ⟨Below.refl _ _, ?_⟩; rfl
    simp only [Act.put, List.setIfInBounds_toArray, List.set_cons_zero, List.set_cons_succ]
    refine wpParts_det (by rfl) (fun W hE hN => ?_) ?_
    · go_simp; refine ⟨Below.refl _ _, ?_⟩; rfl
    simp only [Act.put, List.setIfInBounds_toArray, List.set_cons_zero, List.set_cons_succ]
    refine wpParts_det (by rfl) (fun W hE hN => ?_) ?_
    · have hc := fun b o h => hE.cell (p := ⟨b, o, none⟩) h
      go_simp; refine ⟨Below.refl _ _, ?_⟩; rfl
    simp only [Act.put, List.setIfInBounds_toArray, List.set_cons_zero, List.set_cons_succ]
    refine wpParts_det (by rfl) (fun W hE hN => ?_) ?_
    · go_simp; refine ⟨Below.refl _ _, ?_⟩; rfl
    simp only [Act.put, List.setIfInBounds_toArray, List.set_cons_zero, List.set_cons_succ]
    refine wpParts_det (by rfl) (fun W hE hN => ?_) ?_
    · go_simp; refine ⟨Below.refl _ _, ?_⟩; rfl
    simp only [Act.put, List.setIfInBounds_toArray, List.set_cons_zero, List.set_cons_succ]
    refine wpParts_det (by rfl) (fun W hE hN => ?_) ?_
    · have hc := fun b o h => hE.cell (p := ⟨b, o, none⟩) h
      go_simp; refine ⟨Below.refl _ _, ?_⟩; rfl
    simp only [Act.put, List.setIfInBounds_toArray, List.set_cons_zero, List.set_cons_succ]
    refine wpParts_det (by rfl) (fun W hE hN => ?_) ?_
    · go_simp; refine ⟨Below.refl _ _, ?_⟩; refine (Try_of _ _ hx).mono ?_; rintro e w' ⟨rfl, hb⟩; refine ⟨?_, hb⟩; rfl
    simp only [Act.put, List.setIfInBounds_toArray, List.set_cons_zero, List.set_cons_succ]
    refine wpParts_det (by rfl) (fun W hE hN => ?_) ?_
    · go_simp; refine ⟨Below.refl _ _, ?_⟩; refine (Try_with _ _ _ _ _ _ _ _).mono ?_; rintro e w' ⟨rfl, hb⟩; refine ⟨?_, hb⟩; rfl
    simp only [Act.put, List.setIfInBounds_toArray, List.set_cons_zero, List.set_cons_succ]
    refine wpParts_end fun W1 hE1 hG1 => ?_
    have hcW1 := fun b o h => hE1.cell (p := ⟨b, o, none⟩) h
    have hfW1 := fun b o h => hE1.frozen (p := ⟨b, o, none⟩) h
    have s1 := hE1.size
    simp at s1
    have lt_W1_0_0 : w.heap.size < W1.heap.size := by omega
    have lt_W1_1_0 : w.heap.size + 1 < W1.heap.size := by omega
    go_wp2
    refine bodyPost_ret (v := .agg #[.int .i64 1, .int .i64 1, .int .i64 (hi x), .int .u64 (lo x), .int .i64 x, .int .i64 x]) (by simp [results, Try.results11, go_sem, *]) rfl ⟨rfl, ?_⟩
    exact (by repeat (first | (with_reducible exact Below.refl _ _) | (with_reducible exact Below.refl _ _) | (with_reducible refine Below.setCell ?_ (by first | omega | (simp; done) | (simp; omega)) _) | (with_reducible refine Below.alloc ?_ (by first | omega | (simp; done) | (simp; omega)) _) | (with_reducible refine Below.drew ?_) | (with_reducible refine below_drewN ?_ _) | (with_reducible refine Below.trans ?_ (hE1.mono (by first | omega | (simp; done) | (simp; omega))))))

set_option maxRecDepth 4000 in
set_option maxHeartbeats 4000000 in
theorem Try_both (c1 n1 s1 l1 m1 c2 n2 s2 l2 m2 : Int) (w : World) (h1 : 0 ≤ n1) (h2 : 0 ≤ n2) (hc : IntKind.i64.wrap (c1 + c2) = c1 + c2) (hn : IntKind.i64.wrap (n1 + n2) = n1 + n2) :
    Calls Try.prog 35 #[.agg #[.int .i64 c1, .int .i64 n1, .int .i64 (hi s1), .int .u64 (lo s1), .int .i64 l1, .int .i64 m1], .agg #[.int .i64 c2, .int .i64 n2, .int .i64 (hi s2), .int .u64 (lo s2), .int .i64 l2, .int .i64 m2]] w fun e w' =>
      e = .returned (.agg #[.int .i64 (c1 + c2), .int .i64 (bothN n1 n2), .int .i64 (hi (bothS n2 s1 s2)), .int .u64 (lo (bothS n2 s1 s2)), .int .i64 (bothL n1 n2 l1 l2), .int .i64 (bothM n1 n2 m1 m2)]) ∧ Below w.heap.size w w' := by
  by_cases hz : n2 = 0
  · subst hz
    have Hn := Lib.hid hn; clear hn
    have e1 : bothN n1 0 = n1 := rfl
    have e2 : bothS 0 s1 s2 = s1 := rfl
    have e3 : bothL n1 0 l1 l2 = l1 := rfl
    have e4 : bothM n1 0 m1 m2 = m1 := rfl
    rw [e1, e2, e3, e4]
    clear e1 e2 e3 e4
    go_enter Try.func35, Try.ntmps35
    go_wp2
    refine bodyPost_ret (v := .agg #[.int .i64 (c1 + c2), .int .i64 n1, .int .i64 (hi s1), .int .u64 (lo s1), .int .i64 l1, .int .i64 m1]) (by simp [results, Try.results35, go_sem]) rfl ⟨rfl, ?_⟩
    exact (by repeat (first | (with_reducible exact Below.refl _ _) | (with_reducible exact Below.refl _ _) | (with_reducible refine Below.setCell ?_ (by first | omega | (simp; done) | (simp; omega)) _) | (with_reducible refine Below.alloc ?_ (by first | omega | (simp; done) | (simp; omega)) _) | (with_reducible refine Below.drew ?_) | (with_reducible refine below_drewN ?_ _)))
  · have hz' : (n2 == 0) = false := by simpa using hz
    by_cases hp : 0 < n1
    · have e1 : bothN n1 n2 = n1 + n2 := if_neg hz
      have e2 : bothS n2 s1 s2 = s1 + s2 := if_neg hz
      have e3 : bothL n1 n2 l1 l2 = min l1 l2 := by unfold bothL; rw [if_neg hz, if_pos hp]
      have e4 : bothM n1 n2 m1 m2 = max m1 m2 := by unfold bothM; rw [if_neg hz, if_pos hp]
      rw [e1, e2, e3, e4]
      clear e1 e2 e3 e4
      go_enter Try.func35, Try.ntmps35
      go_wp2
      go_region
      go_wp2_with fail
      all_goals
        refine' wp_region_seq [.inl _, .inl _, .inl _, .inl _, .inl _, .inl _, .inl _] (by kernel_rfl) (by kernel_rfl) ?main2
        case main2 =>
          refine wpParts_det (by rfl) (fun W hE hN => ?_) ?_
          · have hc := fun b o h => hE.cell (p := ⟨b, o, none⟩) h
            go_simp; refine ⟨Below.refl _ _, ?_⟩; rfl
          simp only [Act.put, List.setIfInBounds_toArray, List.set_cons_zero, List.set_cons_succ]
          refine wpParts_det (by rfl) (fun W hE hN => ?_) ?_
          · have hc := fun b o h => hE.cell (p := ⟨b, o, none⟩) h
            go_simp; refine ⟨Below.refl _ _, ?_⟩; rfl
          simp only [Act.put, List.setIfInBounds_toArray, List.set_cons_zero, List.set_cons_succ]
          refine wpParts_det (by rfl) (fun W hE hN => ?_) ?_
          · go_simp; refine ⟨Below.refl _ _, ?_⟩; refine (Try_total _ _ _ _ _ _).mono ?_; rintro e w' ⟨rfl, hb⟩; refine ⟨?_, hb⟩; rfl
          simp only [Act.put, List.setIfInBounds_toArray, List.set_cons_zero, List.set_cons_succ]
          refine wpParts_det (by rfl) (fun W hE hN => ?_) ?_
          · have hc := fun b o h => hE.cell (p := ⟨b, o, none⟩) h
            go_simp; refine ⟨Below.refl _ _, ?_⟩; rfl
          simp only [Act.put, List.setIfInBounds_toArray, List.set_cons_zero, List.set_cons_succ]
          refine wpParts_det (by rfl) (fun W hE hN => ?_) ?_
          · go_simp; refine ⟨Below.refl _ _, ?_⟩; refine (Try_total _ _ _ _ _ _).mono ?_; rintro e w' ⟨rfl, hb⟩; refine ⟨?_, hb⟩; rfl
          simp only [Act.put, List.setIfInBounds_toArray, List.set_cons_zero, List.set_cons_succ]
          refine wpParts_det (by rfl) (fun W hE hN => ?_) ?_
          · go_simp; refine ⟨Below.refl _ _, ?_⟩; refine (Try_plus _ _ _).mono ?_; rintro e w' ⟨rfl, hb⟩; refine ⟨?_, hb⟩; rfl
          simp only [Act.put, List.setIfInBounds_toArray, List.set_cons_zero, List.set_cons_succ]
          refine wpParts_det (by rfl) (fun W hE hN => ?_) ?_
          · go_simp; refine ⟨Below.refl _ _, ?_⟩; refine (Try_with _ _ _ _ _ _ _ _).mono ?_; rintro e w' ⟨rfl, hb⟩; refine ⟨?_, hb⟩; rfl
          simp only [Act.put, List.setIfInBounds_toArray, List.set_cons_zero, List.set_cons_succ]
          refine wpParts_end fun W1 hE1 hG1 => ?_
          have hcW1 := fun b o h => hE1.cell (p := ⟨b, o, none⟩) h
          have hfW1 := fun b o h => hE1.frozen (p := ⟨b, o, none⟩) h
          have s1' := hE1.size
          simp at s1'
          have lt_W1_0_0 : w.heap.size < W1.heap.size := by omega
          have lt_W1_1_0 : w.heap.size + 1 < W1.heap.size := by omega
          have lt_W1_2_0 : w.heap.size + 1 + 1 < W1.heap.size := by omega
          have lt_W1_3_0 : w.heap.size + 1 + 1 + 1 < W1.heap.size := by omega
          go_wp2
          refine bodyPost_ret (v := .agg #[.int .i64 (c1 + c2), .int .i64 (n1 + n2), .int .i64 (hi (s1 + s2)), .int .u64 (lo (s1 + s2)), .int .i64 (min l1 l2), .int .i64 (max m1 m2)]) (by simp [results, Try.results35, go_sem, hcW1, lt_W1_2_0] <;> omega) rfl ⟨rfl, ?_⟩
          exact (by repeat (first | (with_reducible exact Below.refl _ _) | (with_reducible exact Below.refl _ _) | (with_reducible refine Below.setCell ?_ (by first | omega | (simp; done) | (simp; omega)) _) | (with_reducible refine Below.alloc ?_ (by first | omega | (simp; done) | (simp; omega)) _) | (with_reducible refine Below.drew ?_) | (with_reducible refine below_drewN ?_ _) | (with_reducible refine Below.trans ?_ (hE1.mono (by first | omega | (simp; done) | (simp; omega))))))
    · have e1 : bothN n1 n2 = n1 + n2 := if_neg hz
      have e2 : bothS n2 s1 s2 = s1 + s2 := if_neg hz
      have e3 : bothL n1 n2 l1 l2 = l2 := by unfold bothL; rw [if_neg hz, if_neg hp]
      have e4 : bothM n1 n2 m1 m2 = m2 := by unfold bothM; rw [if_neg hz, if_neg hp]
      rw [e1, e2, e3, e4]
      clear e1 e2 e3 e4
      go_enter Try.func35, Try.ntmps35
      all_goals
        go_wp2_with fail
        refine' wp_region_seq [.inl _, .inl _, .inl _, .inl _, .inl _, .inl _, .inl _] (by kernel_rfl) (by kernel_rfl) ?main3
        case main3 =>
          refine wpParts_det (by rfl) (fun W hE hN => ?_) ?_
          · have hc := fun b o h => hE.cell (p := ⟨b, o, none⟩) h
            go_simp; refine ⟨Below.refl _ _, ?_⟩; rfl
          simp only [Act.put, List.setIfInBounds_toArray, List.set_cons_zero, List.set_cons_succ]
          refine wpParts_det (by rfl) (fun W hE hN => ?_) ?_
          · have hc := fun b o h => hE.cell (p := ⟨b, o, none⟩) h
            go_simp; refine ⟨Below.refl _ _, ?_⟩; rfl
          simp only [Act.put, List.setIfInBounds_toArray, List.set_cons_zero, List.set_cons_succ]
          refine wpParts_det (by rfl) (fun W hE hN => ?_) ?_
          · go_simp; refine ⟨Below.refl _ _, ?_⟩; refine (Try_total _ _ _ _ _ _).mono ?_; rintro e w' ⟨rfl, hb⟩; refine ⟨?_, hb⟩; rfl
          simp only [Act.put, List.setIfInBounds_toArray, List.set_cons_zero, List.set_cons_succ]
          refine wpParts_det (by rfl) (fun W hE hN => ?_) ?_
          · have hc := fun b o h => hE.cell (p := ⟨b, o, none⟩) h
            go_simp; refine ⟨Below.refl _ _, ?_⟩; rfl
          simp only [Act.put, List.setIfInBounds_toArray, List.set_cons_zero, List.set_cons_succ]
          refine wpParts_det (by rfl) (fun W hE hN => ?_) ?_
          · go_simp; refine ⟨Below.refl _ _, ?_⟩; refine (Try_total _ _ _ _ _ _).mono ?_; rintro e w' ⟨rfl, hb⟩; refine ⟨?_, hb⟩; rfl
          simp only [Act.put, List.setIfInBounds_toArray, List.set_cons_zero, List.set_cons_succ]
          refine wpParts_det (by rfl) (fun W hE hN => ?_) ?_
          · go_simp; refine ⟨Below.refl _ _, ?_⟩; refine (Try_plus _ _ _).mono ?_; rintro e w' ⟨rfl, hb⟩; refine ⟨?_, hb⟩; rfl
          simp only [Act.put, List.setIfInBounds_toArray, List.set_cons_zero, List.set_cons_succ]
          refine wpParts_det (by rfl) (fun W hE hN => ?_) ?_
          · go_simp; refine ⟨Below.refl _ _, ?_⟩; refine (Try_with _ _ _ _ _ _ _ _).mono ?_; rintro e w' ⟨rfl, hb⟩; refine ⟨?_, hb⟩; rfl
          simp only [Act.put, List.setIfInBounds_toArray, List.set_cons_zero, List.set_cons_succ]
          refine wpParts_end fun W1 hE1 hG1 => ?_
          have hcW1 := fun b o h => hE1.cell (p := ⟨b, o, none⟩) h
          have hfW1 := fun b o h => hE1.frozen (p := ⟨b, o, none⟩) h
          have s1' := hE1.size
          simp at s1'
          have lt_W1_0_0 : w.heap.size < W1.heap.size := by omega
          have lt_W1_1_0 : w.heap.size + 1 < W1.heap.size := by omega
          have lt_W1_2_0 : w.heap.size + 1 + 1 < W1.heap.size := by omega
          have lt_W1_3_0 : w.heap.size + 1 + 1 + 1 < W1.heap.size := by omega
          go_wp2
          refine bodyPost_ret (v := .agg #[.int .i64 (c1 + c2), .int .i64 (n1 + n2), .int .i64 (hi (s1 + s2)), .int .u64 (lo (s1 + s2)), .int .i64 l2, .int .i64 m2]) (by simp [results, Try.results35, go_sem, hcW1, lt_W1_2_0]) rfl ⟨rfl, ?_⟩
          exact (by repeat (first | (with_reducible exact Below.refl _ _) | (with_reducible exact Below.refl _ _) | (with_reducible refine Below.setCell ?_ (by first | omega | (simp; done) | (simp; omega)) _) | (with_reducible refine Below.alloc ?_ (by first | omega | (simp; done) | (simp; omega)) _) | (with_reducible refine Below.drew ?_) | (with_reducible refine below_drewN ?_ _) | (with_reducible refine Below.trans ?_ (hE1.mono (by first | omega | (simp; done) | (simp; omega))))))
end Go.Proofs.Ytdebmifjfemcjaa
