/-
  Ranges of pairs that change places; the rotation, walked.
-/
import Derived.Test.YtmcmknndhppljaaDoorVbD
import Derived.Test.YtmcmknndhppljaaDoorQSrtD
import Derived.Test.YtmcmknndhppljaaDoorVbC
namespace Go.Dav
set_option linter.unusedVariables false
set_option linter.unusedSimpArgs false
open Go Go.RowKit
theorem onlyS_trans {p : Nat → Prop} {A B C : World} (h : OnlyS p A B) (k : OnlyS p B C) : OnlyS p A C := ⟨k.os.trans h.os, k.tape.trans h.tape, k.output.trans h.output, Nat.le_trans h.size k.size, fun i h1 h2 => (k.block i (Nat.lt_of_lt_of_le h1 h.size) h2).trans (h.block i h1 h2)⟩
end Go.Dav
namespace Go.Proofs.YtmcmknndhppljaaDoor
set_option linter.unusedVariables false
set_option linter.unusedSimpArgs false
open Go.RowKit Go.Dav
attribute [local go_sem] Gives ite_val ite_val_true

set_option maxRecDepth 8000 in
set_option maxHeartbeats 8000000 in
theorem Tryd_swapRange (g n cap a b k : Nat) (l : List PairE) (w : World) (hl : l.length = n) (hab : a + k ≤ b) (hbn : b + k ≤ n) (hnc : n ≤ cap) (hc : n ≤ 1073741824) (hp : PairsAt w g l 56) :
    Calls Tryd.prog 113 #[.slice (some ⟨g, 0, none⟩) n cap, .int .i64 (a : Int), .int .i64 (b : Int), .int .i64 (k : Int), .func (.func 56) #[] #[]] w (TrydSorts w g l fun l' => SegP l l' a (b + k) ∧ ∀ i, l'[i]? = swpGet l a b k i) := by
  have HL := Lib.hid hl
  have HP := Lib.hid hp
  clear hl hp
  go_enter Tryd.func113, Tryd.ntmps113
  go_wp2_with fail
  go_loopw [10] (fun ix wr => ∃ (i : Nat) (m : List PairE), i ≤ k ∧ ix = .int .i64 (i : Int) ∧ SegP l m a (b + k) ∧ (∀ j, m[j]? = swpGet l a b i j) ∧ PairsAt wr g m 56 ∧ OnlyS (· = g) w wr) (fun ix _ => k - (intOf ix).toNat)
  case atStart => exact ⟨0, l, Nat.zero_le _, rfl, SegP.refl _ _ _, fun j => (swp_zero l a b j).symm, HP.out, OnlyS.refl _ _⟩
  case round =>
    obtain ⟨i, m, hi, rfl, hseg, hget, hpa, hon⟩ := hrel
    have HSEG := Lib.hid hseg
    have HGET := Lib.hid hget
    have HPA := Lib.hid hpa
    have HON := Lib.hid hon
    clear hseg hget hpa hon
    by_cases hlt : i < k
    · have g1 : (i : Int) < (k : Int) := by omega
      have hmm : m.length = n := HSEG.out.len.trans HL.out
      obtain ⟨I, hI⟩ : ∃ I, a + i = I := ⟨_, rfl⟩
      obtain ⟨J, hJ⟩ : ∃ J, b + i = J := ⟨_, rfl⟩
      have u1 : IntKind.i64.wrap ((a : Int) + (i : Int)) = (I : Int) := by rw [IntWalk.i64_in _ (by omega)]; omega
      have u2 : IntKind.i64.wrap ((b : Int) + (i : Int)) = (J : Int) := by rw [IntWalk.i64_in _ (by omega)]; omega
      have gi : (I : Int) < (n : Int) := by omega
      have gj : (J : Int) < (n : Int) := by omega
      obtain ⟨x, hx⟩ : ∃ x, m[I]? = some x := ⟨_, List.getElem?_eq_getElem (by omega)⟩
      obtain ⟨y, hy⟩ : ∃ y, m[J]? = some y := ⟨_, List.getElem?_eq_getElem (by omega)⟩
      have HX := Lib.hid hx
      have HY := Lib.hid hy
      have HST := Lib.hid (show ∀ j, ((m.set I y).set J x)[j]? = swpGet l a b (i + 1) j from by
        rw [← hI] at hx
        rw [← hJ] at hy
        rw [← hI, ← hJ]
        exact swp_step HGET.out (by omega) hx hy)
      have HSW := Lib.hid (swap_seg (a := a) (b := b + k) hx hy ⟨by omega, by omega⟩ ⟨by omega, by omega⟩)
      have mk := HPA.out.marks
      have lg := HPA.out.lt
      clear hx hy hI hJ hmm
      go_wp2_with fail
      refine wp_region_any (by kernel_rfl) ?_
      obtain ⟨D, hD⟩ : ∃ D, ({ wr with drawn := wr.drawn + 1 } : World) = D := ⟨_, rfl⟩
      have hpD : PairsAt D g m 56 := by rw [← hD]; exact HPA.out
      have honD : ∀ (p : Nat → Prop) (w0 : World), OnlyS p w0 wr → OnlyS p w0 D := fun p w0 h => by rw [← hD]; exact h.ext (Below.refl _ _).drew
      first | rw [hD] | rw [show _ = D from hD]
      have hpD1 : PairsAt (set6W D g I y) g (m.set I y) 56 := hpD.set (List.getElem?_eq_some_iff.1 HX.out).1 y
      have hJ1 : ∃ e0, (m.set I y)[J]? = some e0 := ⟨_, List.getElem?_eq_getElem (by rw [List.length_set]; exact (List.getElem?_eq_some_iff.1 HY.out).1)⟩
      obtain ⟨e0, hJ1⟩ := hJ1
      have hp3 : PairsAt (set6W (set6W D g I y) g J x) g ((m.set I y).set J x) 56 := hpD1.set (List.getElem?_eq_some_iff.1 hJ1).1 x
      have hon3 : ∀ (p : Nat → Prop) (w0 : World), p g → OnlyS p w0 wr → OnlyS p w0 (set6W (set6W D g I y) g J x) := fun p w0 hg h => onlyS_set6 (onlyS_set6 (honD p w0 h) hg) hg
      clear hD honD
      refine wpAny_takeD (i := 0) (v := ?_) (some 16) rfl rfl (by kernel_rfl) (by kernel_rfl) (by kernel_rfl) (fun _ _ _ h => h) (Or.inl ⟨by rfl, ?_⟩) ?_
      rotate_left
      · intro w'; go_simp; rfl
      simp only [Act.put, List.setIfInBounds_toArray, List.set_cons_zero, List.set_cons_succ]
      refine wpAny_takeD (i := 1) (v := ?_) (some 17) rfl rfl (by kernel_rfl) (by kernel_rfl) (by kernel_rfl) (fun _ _ _ h => h) (Or.inl ⟨by rfl, ?_⟩) ?_
      rotate_left
      · intro w'; go_simp; rfl
      simp only [Act.put, List.setIfInBounds_toArray, List.set_cons_zero, List.set_cons_succ]
      refine wpAny_takeD (i := 2) (v := ?_) (some 18) rfl rfl (by kernel_rfl) (by kernel_rfl) (by kernel_rfl) (fun _ _ _ h => h) (Or.inl ⟨by rfl, ?_⟩) ?_
      rotate_left
      · intro w'; go_simp; rfl
      simp only [Act.put, List.setIfInBounds_toArray, List.set_cons_zero, List.set_cons_succ]
      refine wpAny_takeD (i := 3) (v := ?_) (some 19) rfl rfl (by kernel_rfl) (by kernel_rfl) (by kernel_rfl) (fun _ _ _ h => h) (Or.inl ⟨by rfl, ?_⟩) ?_
      rotate_left
      · intro w'; go_simp; rfl
      simp only [Act.put, List.setIfInBounds_toArray, List.set_cons_zero, List.set_cons_succ]
      refine wpAny_takeD (i := 4) (v := ?_) (some 20) rfl rfl (by kernel_rfl) (by kernel_rfl) (by kernel_rfl) (fun _ _ _ h => h) (Or.inl ⟨by rfl, ?_⟩) ?_
      rotate_left
      · intro w'; go_simp; rfl
      simp only [Act.put, List.setIfInBounds_toArray, List.set_cons_zero, List.set_cons_succ]
      refine wpAny_takeD (i := 5) (v := ?_) (some 21) rfl rfl (by kernel_rfl) (by kernel_rfl) (by kernel_rfl) (fun _ _ _ h => h) (Or.inl ⟨by rfl, ?_⟩) ?_
      rotate_left
      · intro w'; go_simp; rfl
      simp only [Act.put, List.setIfInBounds_toArray, List.set_cons_zero, List.set_cons_succ]
      refine wpAny_takeD (i := 6) (v := ?_) (some 22) rfl rfl (by kernel_rfl) (by kernel_rfl) (by kernel_rfl) (fun _ _ _ h => h) (Or.inl ⟨by rfl, ?_⟩) ?_
      rotate_left
      · intro w'; go_simp; rfl
      simp only [Act.put, List.setIfInBounds_toArray, List.set_cons_zero, List.set_cons_succ]
      refine wpAny_takeD (i := 7) (v := ?_) (some 23) rfl rfl (by kernel_rfl) (by kernel_rfl) (by kernel_rfl) (fun _ _ _ h => h) (Or.inl ⟨by rfl, ?_⟩) ?_
      rotate_left
      · intro w'; go_simp; rfl
      simp only [Act.put, List.setIfInBounds_toArray, List.set_cons_zero, List.set_cons_succ]
      refine wpAny_takeD (i := 8) (v := ?_) (some 24) rfl rfl (by kernel_rfl) (by kernel_rfl) (by kernel_rfl) (fun _ _ _ h => h) (Or.inl ⟨by rfl, ?_⟩) ?_
      rotate_left
      · intro w'; go_simp; rfl
      simp only [Act.put, List.setIfInBounds_toArray, List.set_cons_zero, List.set_cons_succ]
      refine wpAny_takeD (i := 9) (v := ?_) (some 25) rfl rfl (by kernel_rfl) (by kernel_rfl) (by kernel_rfl) (fun _ _ _ h => h) (Or.inl ⟨by rfl, ?_⟩) ?_
      rotate_left
      · intro w'; go_simp; rfl
      simp only [Act.put, List.setIfInBounds_toArray, List.set_cons_zero, List.set_cons_succ]
      refine wpAny_takeD (i := 10) (v := ?_) (some 26) rfl rfl (by kernel_rfl) (by kernel_rfl) (by kernel_rfl) (fun _ _ _ h => h) (Or.inl ⟨by rfl, ?_⟩) ?_
      rotate_left
      · intro w'; go_simp; rfl
      simp only [Act.put, List.setIfInBounds_toArray, List.set_cons_zero, List.set_cons_succ]
      refine wpAny_takeD (i := 11) (v := ?_) (some 27) rfl rfl (by kernel_rfl) (by kernel_rfl) (by kernel_rfl) (fun _ _ _ h => h) (Or.inl ⟨by rfl, ?_⟩) ?_
      rotate_left
      · intro w'; go_simp; rfl
      simp only [Act.put, List.setIfInBounds_toArray, List.set_cons_zero, List.set_cons_succ]
      refine wpAny_takeD (i := 12) (v := ?_) (some 28) rfl rfl (by kernel_rfl) (by kernel_rfl) (by kernel_rfl) (fun _ _ _ h => h) (Or.inl ⟨by rfl, ?_⟩) ?_
      rotate_left
      · intro w'; go_simp; rfl
      simp only [Act.put, List.setIfInBounds_toArray, List.set_cons_zero, List.set_cons_succ]
      refine wpAny_takeD (i := 14) (v := ?_) (some 30) rfl rfl (by kernel_rfl) (by kernel_rfl) (by kernel_rfl) (fun _ _ _ h => h) (Or.inl ⟨by rfl, ?_⟩) ?_
      rotate_left
      · intro w'; go_simp; rfl
      simp only [Act.put, List.setIfInBounds_toArray, List.set_cons_zero, List.set_cons_succ]
      refine wpAny_takeD (i := 15) (v := ?_) (some 31) rfl rfl (by kernel_rfl) (by kernel_rfl) (by kernel_rfl) (fun _ _ _ h => h) (Or.inl ⟨by rfl, ?_⟩) ?_
      rotate_left
      · intro w'; go_simp; rfl
      simp only [Act.put, List.setIfInBounds_toArray, List.set_cons_zero, List.set_cons_succ]
      refine wpAny_takeD (i := 16) (v := ?_) (some 32) rfl rfl (by kernel_rfl) (by kernel_rfl) (by kernel_rfl) (fun _ _ _ h => h) (Or.inl ⟨by rfl, ?_⟩) ?_
      rotate_left
      · intro w'; go_simp; rfl
      simp only [Act.put, List.setIfInBounds_toArray, List.set_cons_zero, List.set_cons_succ]
      refine wpAny_takeD (i := 17) (v := ?_) (some 33) rfl rfl (by kernel_rfl) (by kernel_rfl) (by kernel_rfl) (fun _ _ _ h => h) (Or.inl ⟨by rfl, ?_⟩) ?_
      rotate_left
      · intro w'; go_simp; rfl
      simp only [Act.put, List.setIfInBounds_toArray, List.set_cons_zero, List.set_cons_succ]
      refine wpAny_takeD (i := 18) (v := ?_) (some 34) rfl rfl (by kernel_rfl) (by kernel_rfl) (by kernel_rfl) (fun _ _ _ h => h) (Or.inl ⟨by rfl, ?_⟩) ?_
      rotate_left
      · intro w'; go_simp; rfl
      simp only [Act.put, List.setIfInBounds_toArray, List.set_cons_zero, List.set_cons_succ]
      refine wpAny_all (rs := [13, 19]) (by kernel_rfl) (by simp) fun jj hj => ?_
      simp only [List.mem_cons, List.not_mem_nil, or_false] at hj
      rcases hj with rfl | rfl
      refine wpOp_valE (w' := D) (some 29) rfl rfl rfl (Tryd_load6 rfl rfl hpD HY.out) ?_
      simp only [Act.put, List.setIfInBounds_toArray, List.set_cons_zero, List.set_cons_succ]
      refine wpAny_runsD (i := 19) (w' := D) (some 35) (by kernel_rfl) rfl rfl (by rfl) (Tryd_load6 rfl rfl hpD HX.out) ?_
      rotate_left
      refine wpOp_valE (w' := D) (some 35) rfl rfl rfl (Tryd_load6 rfl rfl hpD HX.out) ?_
      simp only [Act.put, List.setIfInBounds_toArray, List.set_cons_zero, List.set_cons_succ]
      refine wpAny_runsD (i := 13) (w' := D) (some 29) (by kernel_rfl) rfl rfl (by rfl) (Tryd_load6 rfl rfl hpD HY.out) ?_
      all_goals
        simp only [Act.put, List.setIfInBounds_toArray, List.set_cons_zero, List.set_cons_succ]
        refine wpAny_takeD (i := 20) (v := ?_) (some 36) rfl rfl (by kernel_rfl) (by kernel_rfl) (by kernel_rfl) (fun _ _ _ h => h) (Or.inl ⟨by rfl, ?_⟩) ?_
        rotate_left
        · intro w'; go_simp; rfl
        simp only [Act.put, List.setIfInBounds_toArray, List.set_cons_zero, List.set_cons_succ]
        refine wpAny_skipsD (i := 21) none (by kernel_rfl) rfl rfl (by rfl) (Tryd_store6 (e := y) rfl rfl rfl hpD HX.out) ?_
        simp only [Act.put, List.setIfInBounds_toArray, List.set_cons_zero, List.set_cons_succ]
        refine wpAny_takeD (i := 22) (v := ?_) (some 37) rfl rfl (by kernel_rfl) (by kernel_rfl) (by kernel_rfl) (fun _ _ _ h => h) (Or.inl ⟨by rfl, ?_⟩) ?_
        rotate_left
        · intro w'; go_simp; rfl
        simp only [Act.put, List.setIfInBounds_toArray, List.set_cons_zero, List.set_cons_succ]
        refine wpAny_skipsD (i := 23) none (by kernel_rfl) rfl rfl (by rfl) (Tryd_store6 (e := x) rfl rfl rfl hpD1 hJ1) ?_
        simp only [Act.put, List.setIfInBounds_toArray, List.set_cons_zero, List.set_cons_succ]
        refine wpAny_done (by kernel_rfl) ?_ _
      all_goals
        have HP3 := Lib.hid hp3
        have HO3 := Lib.hid (hon3 (· = g) w rfl HON.out)
        clear hp3 hon3 mk lg
        go_wp2_with fail
        go_roundw
        case rel => exact ⟨i + 1, _, by omega, by go_num, HSEG.out.trans HSW.out (Nat.le_refl _) (Nat.le_refl _), HST.out, HP3.out, HO3.out⟩
        case measure => simp [intOf]; omega
    · have g1 : ¬ (i : Int) < (k : Int) := by omega
      obtain rfl : i = k := by omega
      go_wp2
      go_end0
      exact ⟨rfl, m, ⟨HSEG.out, HGET.out⟩, HPA.out, HON.out⟩

set_option maxRecDepth 8000 in
set_option maxHeartbeats 8000000 in
theorem Tryd_rotate (g n cap a m b : Nat) (l : List PairE) (w : World) (hl : l.length = n) (ham : a < m) (hmb : m < b) (hbn : b ≤ n) (hnc : n ≤ cap) (hc : n ≤ 1073741824) (hp : PairsAt w g l 56) :
    Calls Tryd.prog 108 #[.slice (some ⟨g, 0, none⟩) n cap, .int .i64 (a : Int), .int .i64 (m : Int), .int .i64 (b : Int), .func (.func 56) #[] #[]] w (TrydSorts w g l fun l' => SegP l l' a b ∧ ∀ k, l'[k]? = rotGet l a m b k) := by
  have HL := Lib.hid hl
  have HP := Lib.hid hp
  have u1 : IntKind.i64.wrap ((m : Int) - (a : Int)) = ((m - a : Nat) : Int) := by rw [IntWalk.i64_in _ (by omega)]; omega
  have u2 : IntKind.i64.wrap ((b : Int) - (m : Int)) = ((b - m : Nat) : Int) := by rw [IntWalk.i64_in _ (by omega)]; omega
  clear hl hp
  go_enter Tryd.func108, Tryd.ntmps108
  go_wp2_with fail
  go_loopw [10, 11] (fun ix jx wr => ∃ (i j : Nat) (c : List PairE), 0 < i ∧ 0 < j ∧ i ≤ m - a ∧ j ≤ b - m ∧ ix = .int .i64 (i : Int) ∧ jx = .int .i64 (j : Int) ∧ SegP l c a b ∧ (∀ k, rotGet c (m - i) m (m + j) k = rotGet l a m b k) ∧ PairsAt wr g c 56 ∧ OnlyS (· = g) w wr) (fun ix jx _ => (intOf ix).toNat + (intOf jx).toNat)
  case atStart => exact ⟨m - a, b - m, l, by omega, by omega, Nat.le_refl _, Nat.le_refl _, rfl, rfl, SegP.refl _ _ _, rot_start l (by omega) (by omega), HP.out, OnlyS.refl _ _⟩
  case round =>
    obtain ⟨i, j, c, hi0, hj0, hi, hj, rfl, rfl, hseg, hget, hpa, hon⟩ := hrel
    have HSEG := Lib.hid hseg
    have HGET := Lib.hid hget
    have HPA := Lib.hid hpa
    have HON := Lib.hid hon
    have hcl : c.length = n := hseg.len.trans HL.out
    obtain ⟨A, hA⟩ : ∃ A, m - i = A := ⟨_, rfl⟩
    have v1 : IntKind.i64.wrap ((m : Int) - (i : Int)) = (A : Int) := by rw [IntWalk.i64_in _ (by omega)]; omega
    clear hseg hget hpa hon u1 u2
    rcases Nat.lt_trichotomy i j with hij | hij | hij
    · have g1 : ((i : Int) != (j : Int)) = true := by rw [bne_iff_ne]; omega
      have g2 : ¬ (j : Int) < (i : Int) := by omega
      obtain ⟨K, hK⟩ : ∃ K, m + j - i = K := ⟨_, rfl⟩
      have v2 : IntKind.i64.wrap ((m : Int) + (j : Int)) = (m : Int) + (j : Int) := IntWalk.i64_in _ (by omega)
      have v3 : IntKind.i64.wrap ((m : Int) + (j : Int) - (i : Int)) = (K : Int) := by rw [IntWalk.i64_in _ (by omega)]; omega
      have v4 : IntKind.i64.wrap ((j : Int) - (i : Int)) = ((j - i : Nat) : Int) := by rw [IntWalk.i64_in _ (by omega)]; omega
      have HC := Lib.hid (Tryd_swapRange g n cap A K i c wr hcl (by omega) (by omega) hnc hc HPA.out)
      have HK := Lib.hid hK
      have HA := Lib.hid hA
      have HIJ := Lib.hid hij
      clear hcl hA hK hij
      go_wp2_with fail
      refine HC.out.mono ?_; rintro e w2 ⟨rfl, c2, ⟨hs2, hg2⟩, hp2, ho2⟩
      have HR := Lib.hid (show ∀ k, rotGet c2 (m - i) m (m + (j - i)) k = rotGet l a m b k from rot_more HGET.out (by omega) HIJ.out (by rw [HK.out, HA.out]; exact hg2))
      have HS2 := Lib.hid (HSEG.out.trans hs2 (by have := HA.out; omega) (by have := HK.out; have := HIJ.out; omega))
      have HP2 := Lib.hid hp2
      have HO2 := Lib.hid (onlyS_trans HON.out ho2)
      clear hs2 hg2 hp2 ho2 HC
      go_wp2_with fail
      go_roundw
      case rel => exact ⟨i, j - i, c2, hi0, by have := HIJ.out; omega, hi, by omega, by go_num, by go_num, HS2.out, HR.out, HP2.out, HO2.out⟩
      case measure => have := HIJ.out; simp [intOf]; omega
    · subst hij
      have g1 : ((i : Int) != (i : Int)) = false := by simp
      have HC := Lib.hid (Tryd_swapRange g n cap A m i c wr hcl (by omega) (by omega) hnc hc HPA.out)
      have HA := Lib.hid hA
      clear hcl hA
      go_wp2_with fail
      refine HC.out.mono ?_; rintro e w2 ⟨rfl, c2, ⟨hs2, hg2⟩, hp2, ho2⟩
      have HR := Lib.hid (show ∀ k, c2[k]? = rotGet l a m b k from rot_same HGET.out (by omega) (by rw [HA.out]; exact hg2))
      have HS2 := Lib.hid (HSEG.out.trans hs2 (by have := HA.out; omega) (by omega))
      have HP2 := Lib.hid hp2
      have HO2 := Lib.hid (onlyS_trans HON.out ho2)
      clear hs2 hg2 hp2 ho2 HC
      go_wp2
      go_end0
      exact ⟨rfl, c2, ⟨HS2.out, HR.out⟩, HP2.out, HO2.out⟩
    · have g1 : ((i : Int) != (j : Int)) = true := by rw [bne_iff_ne]; omega
      have g2 : (j : Int) < (i : Int) := by omega
      have v4 : IntKind.i64.wrap ((i : Int) - (j : Int)) = ((i - j : Nat) : Int) := by rw [IntWalk.i64_in _ (by omega)]; omega
      have HC := Lib.hid (Tryd_swapRange g n cap A m j c wr hcl (by omega) (by omega) hnc hc HPA.out)
      have HA := Lib.hid hA
      have HIJ := Lib.hid hij
      clear hcl hA hij
      go_wp2_with fail
      refine HC.out.mono ?_; rintro e w2 ⟨rfl, c2, ⟨hs2, hg2⟩, hp2, ho2⟩
      have HR := Lib.hid (show ∀ k, rotGet c2 (m - (i - j)) m (m + j) k = rotGet l a m b k from rot_less HGET.out (by omega) HIJ.out (by rw [HA.out]; exact hg2))
      have HS2 := Lib.hid (HSEG.out.trans hs2 (by have := HA.out; omega) (by omega))
      have HP2 := Lib.hid hp2
      have HO2 := Lib.hid (onlyS_trans HON.out ho2)
      clear hs2 hg2 hp2 ho2 HC
      go_wp2_with fail
      go_roundw
      case rel => exact ⟨i - j, j, c2, by have := HIJ.out; omega, hj0, by omega, hj, by go_num, by go_num, HS2.out, HR.out, HP2.out, HO2.out⟩
      case measure => have := HIJ.out; simp [intOf]; omega
end Go.Proofs.YtmcmknndhppljaaDoor
