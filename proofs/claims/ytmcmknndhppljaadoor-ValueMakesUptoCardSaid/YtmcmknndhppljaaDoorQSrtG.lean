/-
  The merge of two sorted runs of pairs, walked: the first of one pair.
-/
import Derived.Test.YtmcmknndhppljaaDoorQSrtE
import Derived.Test.YtmcmknndhppljaaDoorQSrtF
import Derived.Deep.DeepCutAuto
namespace Go.Proofs.YtmcmknndhppljaaDoor
set_option linter.unusedVariables false
set_option linter.unusedSimpArgs false
open Go.RowKit Go.Dav
attribute [local go_sem] Gives ite_val ite_val_true

set_option maxRecDepth 8000 in
set_option maxHeartbeats 16000000 in
theorem Tryd_symUp (g n cap a b : Nat) (l : List PairE) (w : World) (hl : l.length = n) (hmb : a + 1 < b) (hbn : b ≤ n) (hnc : n ≤ cap) (hc : n ≤ 1073741824) (hp : PairsAt w g l 56) (h2 : SortedS l (a + 1) b) :
    Calls Tryd.prog 95 #[.slice (some ⟨g, 0, none⟩) n cap, .int .i64 (a : Int), .int .i64 ((a + 1 : Nat) : Int), .int .i64 (b : Int), .func (.func 56) #[] #[]] w (TrydSorts w g l fun l' => SegP l l' a b ∧ SortedS l' a b) := by
  have HL := Lib.hid hl
  have HP := Lib.hid hp
  have H2 := Lib.hid h2
  have hen := Tryd_enter56
  have HCMP := Lib.hid (fun x y W => Tryd_cmpPair x y W)
  clear hl hp h2
  have u1 : IntKind.i64.wrap (((a + 1 : Nat) : Int) - (a : Int)) = 1 := by rw [IntWalk.i64_in _ (by omega)]; omega
  have u1' : IntKind.i64.wrap ((a : Int) + 1 - (a : Int)) = 1 := by rw [IntWalk.i64_in _ (by omega)]; omega
  obtain ⟨y, hy⟩ : ∃ y, l[a]? = some y := ⟨_, List.getElem?_eq_getElem (by have := HL.out; omega)⟩
  have HY := Lib.hid hy
  clear hy
  go_enter Tryd.func95, Tryd.ntmps95
  go_wp2_with fail
  go_loopw [10, 11] (fun iv jv wr => ∃ i j : Nat, iv = .int .i64 i ∧ jv = .int .i64 j ∧ a + 1 ≤ i ∧ i ≤ j ∧ j ≤ b ∧ (∀ k x y, a + 1 ≤ k → k < i → l[k]? = some x → l[a]? = some y → kle x.key y.key) ∧ (∀ k x y, j ≤ k → k < b → l[k]? = some x → l[a]? = some y → kle y.key x.key) ∧ PairsAt wr g l 56 ∧ OnlyS (· = g) w wr) (fun iv jv _ => (intOf jv).toNat - (intOf iv).toNat)
  case atStart => exact ⟨a + 1, b, by go_num, rfl, Nat.le_refl _, by omega, Nat.le_refl _, fun k x y g1 g2 => by omega, fun k x y g1 g2 => by omega, HP.out, OnlyS.refl _ _⟩
  case round =>
    obtain ⟨i, j, rfl, rfl, hai, hij, hjb, hlo, hhi, hpa, hon⟩ := hrel
    have HLO := Lib.hid hlo
    have HHI := Lib.hid hhi
    have HPA := Lib.hid hpa
    have HON := Lib.hid hon
    clear hlo hhi hpa hon u1 u1'
    by_cases hlt : i < j
    · obtain ⟨h, hh⟩ : ∃ h, (i + j) / 2 = h := ⟨_, rfl⟩
      have hih : i ≤ h := by omega
      have hhj : h < j := by omega
      have e1 : ((i : Int) + (j : Int)) / 2 = (h : Int) := by omega
      have g1 : (i : Int) < (j : Int) := by omega
      have gh : (h : Int) < (n : Int) := by omega
      have ga : (a : Int) < (n : Int) := by omega
      have hj6 : (j : Int) ≤ 1073741824 := by omega
      obtain ⟨x, hx⟩ : ∃ x, l[h]? = some x := ⟨_, List.getElem?_eq_getElem (by have := HL.out; omega)⟩
      obtain ⟨x0, x1, x2, x3, x4, x5⟩ := HPA.out.get hx
      obtain ⟨y0, y1, y2, y3, y4, y5⟩ := HPA.out.get HY.out
      have lg := HPA.out.lt
      have HX := Lib.hid hx
      have HIH := Lib.hid hih
      have HHJ := Lib.hid hhj
      have hdec := cmp_neg x.key y.key
      have hcall := fun W => HCMP.out x y W
      obtain ⟨c, hcc⟩ : ∃ c, cmpOf x.key y.key = c := ⟨_, rfl⟩
      rw [hcc] at hdec hcall
      have HCALL := Lib.hid hcall
      clear hx hh hih hhj hcall hcc
      cases hk : kless x.key y.key with
      | true =>
        rw [hk] at hdec
        have hdec2 : c < 0 := by simpa using hdec
        have HLO2 := Lib.hid (show ∀ k x' y', a + 1 ≤ k → k < h + 1 → l[k]? = some x' → l[a]? = some y' → kle x'.key y'.key from fun k x' y' g1 g2 hx' hy' => by
          rw [HY.out] at hy'; cases hy'
          exact kle_trans (H2.out k h x' x g1 (by omega) (by have := HHJ.out; omega) hx' HX.out) (kle_of_less hk))
        clear hk
        go_wp2_with fail
        refine' wp_region_seq [.inl _, .inl _, .inl _, .inl _, .inl _, .inl _, .inl _, .inl _, .inl _, .inl _, .inl _] (by kernel_rfl) (by kernel_rfl) ?main1
        case main1 =>
          refine wpParts_det (by rfl) (fun W hE hN => ?_) ?_
          · go_simp; refine ⟨Below.refl _ _, ?_⟩; rfl
          simp only [Act.put, List.setIfInBounds_toArray, List.set_cons_zero, List.set_cons_succ]
          refine wpParts_det (by rfl) (fun W hE hN => ?_) ?_
          · go_simp; refine ⟨Below.refl _ _, ?_⟩; rfl
          simp only [Act.put, List.setIfInBounds_toArray, List.set_cons_zero, List.set_cons_succ]
          refine wpParts_det (by rfl) (fun W hE hN => ?_) ?_
          · go_simp; refine ⟨Below.refl _ _, ?_⟩; rfl
          simp only [Act.put, List.setIfInBounds_toArray, List.set_cons_zero, List.set_cons_succ]
          refine wpParts_det (by rfl) (fun W hE hN => ?_) ?_
          · go_simp; refine ⟨Below.refl _ _, ?_⟩; rfl
          simp only [Act.put, List.setIfInBounds_toArray, List.set_cons_zero, List.set_cons_succ]
          refine wpParts_det (by rfl) (fun W hE hN => ?_) ?_
          · have hc := fun b o h => hE.cell (p := ⟨b, o, none⟩) h
            go_simp; refine ⟨Below.refl _ _, ?_⟩; rfl
          simp only [Act.put, List.setIfInBounds_toArray, List.set_cons_zero, List.set_cons_succ]
          refine wpParts_det (by rfl) (fun W hE hN => ?_) ?_
          · go_simp; refine ⟨Below.refl _ _, ?_⟩; rfl
          simp only [Act.put, List.setIfInBounds_toArray, List.set_cons_zero, List.set_cons_succ]
          refine wpParts_det (by rfl) (fun W hE hN => ?_) ?_
          · go_simp; refine ⟨Below.refl _ _, ?_⟩; rfl
          simp only [Act.put, List.setIfInBounds_toArray, List.set_cons_zero, List.set_cons_succ]
          refine wpParts_det (by rfl) (fun W hE hN => ?_) ?_
          · go_simp; refine ⟨Below.refl _ _, ?_⟩; rfl
          simp only [Act.put, List.setIfInBounds_toArray, List.set_cons_zero, List.set_cons_succ]
          refine wpParts_det (by rfl) (fun W hE hN => ?_) ?_
          · have hc := fun b o h => hE.cell (p := ⟨b, o, none⟩) h
            go_simp; refine ⟨Below.refl _ _, ?_⟩; rfl
          simp only [Act.put, List.setIfInBounds_toArray, List.set_cons_zero, List.set_cons_succ]
          refine wpParts_det (by rfl) (fun W hE hN => ?_) ?_
          · go_simp; refine ⟨Below.refl _ _, ?_⟩; refine (HCALL.out W).mono ?_; rintro e w' ⟨rfl, hb⟩; refine ⟨?_, hb⟩; rfl
          simp only [Act.put, List.setIfInBounds_toArray, List.set_cons_zero, List.set_cons_succ]
          refine wpParts_det (by rfl) (fun W hE hN => ?_) ?_
          · go_simp; refine ⟨Below.refl _ _, ?_⟩; rfl
          simp only [Act.put, List.setIfInBounds_toArray, List.set_cons_zero, List.set_cons_succ]
          refine wpParts_end fun W2 hE2 hG2 => ?_
          have hcW2 := fun b o h => hE2.cell (p := ⟨b, o, none⟩) h
          have hfW2 := fun b o h => hE2.frozen (p := ⟨b, o, none⟩) h
          have HP2 := Lib.hid (HPA.out.ext hE2)
          have HO2 := Lib.hid (HON.out.ext hE2)
          clear hE2 hcW2 hfW2 lg x0 x1 x2 x3 x4 x5 y0 y1 y2 y3 y4 y5
          go_wp2_with fail
          go_roundw
          case rel => exact ⟨h + 1, j, by go_num, rfl, by have := HIH.out; omega, HHJ.out, hjb, HLO2.out, HHI.out, HP2.out, HO2.out⟩
          case measure => have := HIH.out; have := HHJ.out; simp [intOf]; omega
      | false =>
        rw [hk] at hdec
        have hdec2 : ¬ c < 0 := by simpa using hdec
        have HHI2 := Lib.hid (show ∀ k x' y', h ≤ k → k < b → l[k]? = some x' → l[a]? = some y' → kle y'.key x'.key from fun k x' y' g1 g2 hx' hy' => by
          rw [HY.out] at hy'; cases hy'
          exact kle_trans (show kle y.key x.key from hk) (H2.out h k x x' (by have := HIH.out; omega) g1 g2 HX.out hx'))
        clear hk
        go_wp2_with fail
        refine' wp_region_seq [.inl _, .inl _, .inl _, .inl _, .inl _, .inl _, .inl _, .inl _, .inl _, .inl _, .inl _] (by kernel_rfl) (by kernel_rfl) ?main2
        case main2 =>
          refine wpParts_det (by rfl) (fun W hE hN => ?_) ?_
          · go_simp; refine ⟨Below.refl _ _, ?_⟩; rfl
          simp only [Act.put, List.setIfInBounds_toArray, List.set_cons_zero, List.set_cons_succ]
          refine wpParts_det (by rfl) (fun W hE hN => ?_) ?_
          · go_simp; refine ⟨Below.refl _ _, ?_⟩; rfl
          simp only [Act.put, List.setIfInBounds_toArray, List.set_cons_zero, List.set_cons_succ]
          refine wpParts_det (by rfl) (fun W hE hN => ?_) ?_
          · go_simp; refine ⟨Below.refl _ _, ?_⟩; rfl
          simp only [Act.put, List.setIfInBounds_toArray, List.set_cons_zero, List.set_cons_succ]
          refine wpParts_det (by rfl) (fun W hE hN => ?_) ?_
          · go_simp; refine ⟨Below.refl _ _, ?_⟩; rfl
          simp only [Act.put, List.setIfInBounds_toArray, List.set_cons_zero, List.set_cons_succ]
          refine wpParts_det (by rfl) (fun W hE hN => ?_) ?_
          · have hc := fun b o h => hE.cell (p := ⟨b, o, none⟩) h
            go_simp; refine ⟨Below.refl _ _, ?_⟩; rfl
          simp only [Act.put, List.setIfInBounds_toArray, List.set_cons_zero, List.set_cons_succ]
          refine wpParts_det (by rfl) (fun W hE hN => ?_) ?_
          · go_simp; refine ⟨Below.refl _ _, ?_⟩; rfl
          simp only [Act.put, List.setIfInBounds_toArray, List.set_cons_zero, List.set_cons_succ]
          refine wpParts_det (by rfl) (fun W hE hN => ?_) ?_
          · go_simp; refine ⟨Below.refl _ _, ?_⟩; rfl
          simp only [Act.put, List.setIfInBounds_toArray, List.set_cons_zero, List.set_cons_succ]
          refine wpParts_det (by rfl) (fun W hE hN => ?_) ?_
          · go_simp; refine ⟨Below.refl _ _, ?_⟩; rfl
          simp only [Act.put, List.setIfInBounds_toArray, List.set_cons_zero, List.set_cons_succ]
          refine wpParts_det (by rfl) (fun W hE hN => ?_) ?_
          · have hc := fun b o h => hE.cell (p := ⟨b, o, none⟩) h
            go_simp; refine ⟨Below.refl _ _, ?_⟩; rfl
          simp only [Act.put, List.setIfInBounds_toArray, List.set_cons_zero, List.set_cons_succ]
          refine wpParts_det (by rfl) (fun W hE hN => ?_) ?_
          · go_simp; refine ⟨Below.refl _ _, ?_⟩; refine (HCALL.out W).mono ?_; rintro e w' ⟨rfl, hb⟩; refine ⟨?_, hb⟩; rfl
          simp only [Act.put, List.setIfInBounds_toArray, List.set_cons_zero, List.set_cons_succ]
          refine wpParts_det (by rfl) (fun W hE hN => ?_) ?_
          · go_simp; refine ⟨Below.refl _ _, ?_⟩; rfl
          simp only [Act.put, List.setIfInBounds_toArray, List.set_cons_zero, List.set_cons_succ]
          refine wpParts_end fun W2 hE2 hG2 => ?_
          have hcW2 := fun b o h => hE2.cell (p := ⟨b, o, none⟩) h
          have hfW2 := fun b o h => hE2.frozen (p := ⟨b, o, none⟩) h
          have HP2 := Lib.hid (HPA.out.ext hE2)
          have HO2 := Lib.hid (HON.out.ext hE2)
          clear hE2 hcW2 hfW2 lg x0 x1 x2 x3 x4 x5 y0 y1 y2 y3 y4 y5
          go_wp2_with fail
          go_roundw
          case rel => (repeat apply Exists.intro); exact ⟨⟨i, h, rfl, rfl, hai, HIH.out, by have := HHJ.out; omega, HLO.out, HHI2.out, HP2.out, HO2.out⟩, rfl⟩
          case measure => have := HIH.out; have := HHJ.out; simp [intOf]; omega
    · have g1 : ¬ (i : Int) < (j : Int) := by omega
      obtain rfl : i = j := by omega
      obtain ⟨I1, hI1⟩ : ∃ I1, I1 + 1 = i := ⟨i - 1, by omega⟩
      have v1 : IntKind.i64.wrap ((i : Int) - 1) = (I1 : Int) := by rw [IntWalk.i64_in _ (by omega)]; omega
      have HI1 := Lib.hid hI1
      clear hlt hI1
      go_wp2_with fail
      go_loopw [13] (fun kv wv => ∃ (k : Nat) (c : List PairE), a ≤ k ∧ k ≤ I1 ∧ kv = .int .i64 (k : Int) ∧ SegP l c a b ∧ (∀ p, c[p]? = rotGet l a (a + 1) (k + 1) p) ∧ PairsAt wv g c 56 ∧ OnlyS (· = g) w wv) (fun kv _ => I1 - (intOf kv).toNat)
      case atStart => exact ⟨a, l, Nat.le_refl _, by have := HI1.out; omega, rfl, SegP.refl _ _ _, rot_id (.inr rfl), HPA.out, HON.out⟩
      case round =>
        obtain ⟨k, c, hak, hki, rfl, hseg, hget, hpc, hoc⟩ := hrel
        have HSEG := Lib.hid hseg
        have HGET := Lib.hid hget
        have HPC := Lib.hid hpc
        have HOC := Lib.hid hoc
        have hcl : c.length = n := hseg.len.trans HL.out
        clear hseg hget hpc hoc
        by_cases hkl : k < I1
        · have g2 : (k : Int) < (I1 : Int) := by omega
          obtain ⟨J, hJ⟩ : ∃ J, k + 1 = J := ⟨_, rfl⟩
          have hJb : J < b := by have := HI1.out; omega
          have u3 : IntKind.i64.wrap ((k : Int) + 1) = (J : Int) := by rw [IntWalk.i64_in _ (by omega)]; omega
          have gk : (k : Int) < (n : Int) := by omega
          have gj : (J : Int) < (n : Int) := by omega
          obtain ⟨x, hx⟩ : ∃ x, c[k]? = some x := ⟨_, List.getElem?_eq_getElem (by omega)⟩
          obtain ⟨z, hz⟩ : ∃ z, c[J]? = some z := ⟨_, List.getElem?_eq_getElem (by omega)⟩
          have HX := Lib.hid hx
          have HZ := Lib.hid hz
          have HST := Lib.hid (show ∀ p, ((c.set k z).set J x)[p]? = rotGet l a (a + 1) (k + 2) p from by
            rw [← hJ] at hz ⊢
            exact up_step HGET.out hak hx hz)
          have HSW := Lib.hid (swap_seg (a := a) (b := b) hx hz ⟨hak, by omega⟩ ⟨by omega, hJb⟩)
          have HJ := Lib.hid hJ
          have mk := HPC.out.marks
          have lg := HPC.out.lt
          clear hx hz hJ hcl
          go_wp2_with fail
          refine wp_region_any (by kernel_rfl) ?_
          obtain ⟨D, hD⟩ : ∃ D, ({ wr with drawn := wr.drawn + 1 } : World) = D := ⟨_, rfl⟩
          have hpD : PairsAt D g c 56 := by rw [← hD]; exact HPC.out
          have honD : ∀ (p : Nat → Prop) (w0 : World), OnlyS p w0 wr → OnlyS p w0 D := fun p w0 h => by rw [← hD]; exact h.ext (Below.refl _ _).drew
          first | rw [hD] | rw [show _ = D from hD]
          have hpD1 : PairsAt (set6W D g k z) g (c.set k z) 56 := hpD.set (List.getElem?_eq_some_iff.1 HX.out).1 z
          have hJ1 : ∃ e0, (c.set k z)[J]? = some e0 := ⟨_, List.getElem?_eq_getElem (by rw [List.length_set]; exact (List.getElem?_eq_some_iff.1 HZ.out).1)⟩
          obtain ⟨e0, hJ1⟩ := hJ1
          have hp3 : PairsAt (set6W (set6W D g k z) g J x) g ((c.set k z).set J x) 56 := hpD1.set (List.getElem?_eq_some_iff.1 hJ1).1 x
          have hon3 : ∀ (p : Nat → Prop) (w0 : World), p g → OnlyS p w0 wr → OnlyS p w0 (set6W (set6W D g k z) g J x) := fun p w0 hg h => onlyS_set6 (onlyS_set6 (honD p w0 h) hg) hg
          clear hD honD
          refine wpAny_takeD (i := 0) (v := ?_) (some 61) rfl rfl (by kernel_rfl) (by kernel_rfl) (by kernel_rfl) (fun _ _ _ h => h) (Or.inl ⟨by rfl, ?_⟩) ?_
          rotate_left
          · intro w'; go_simp; rfl
          simp only [Act.put, List.setIfInBounds_toArray, List.set_cons_zero, List.set_cons_succ]
          refine wpAny_takeD (i := 1) (v := ?_) (some 62) rfl rfl (by kernel_rfl) (by kernel_rfl) (by kernel_rfl) (fun _ _ _ h => h) (Or.inl ⟨by rfl, ?_⟩) ?_
          rotate_left
          · intro w'; go_simp; rfl
          simp only [Act.put, List.setIfInBounds_toArray, List.set_cons_zero, List.set_cons_succ]
          refine wpAny_takeD (i := 2) (v := ?_) (some 63) rfl rfl (by kernel_rfl) (by kernel_rfl) (by kernel_rfl) (fun _ _ _ h => h) (Or.inl ⟨by rfl, ?_⟩) ?_
          rotate_left
          · intro w'; go_simp; rfl
          simp only [Act.put, List.setIfInBounds_toArray, List.set_cons_zero, List.set_cons_succ]
          refine wpAny_takeD (i := 3) (v := ?_) (some 64) rfl rfl (by kernel_rfl) (by kernel_rfl) (by kernel_rfl) (fun _ _ _ h => h) (Or.inl ⟨by rfl, ?_⟩) ?_
          rotate_left
          · intro w'; go_simp; rfl
          simp only [Act.put, List.setIfInBounds_toArray, List.set_cons_zero, List.set_cons_succ]
          refine wpAny_takeD (i := 4) (v := ?_) (some 65) rfl rfl (by kernel_rfl) (by kernel_rfl) (by kernel_rfl) (fun _ _ _ h => h) (Or.inl ⟨by rfl, ?_⟩) ?_
          rotate_left
          · intro w'; go_simp; rfl
          simp only [Act.put, List.setIfInBounds_toArray, List.set_cons_zero, List.set_cons_succ]
          refine wpAny_takeD (i := 5) (v := ?_) (some 66) rfl rfl (by kernel_rfl) (by kernel_rfl) (by kernel_rfl) (fun _ _ _ h => h) (Or.inl ⟨by rfl, ?_⟩) ?_
          rotate_left
          · intro w'; go_simp; rfl
          simp only [Act.put, List.setIfInBounds_toArray, List.set_cons_zero, List.set_cons_succ]
          refine wpAny_takeD (i := 6) (v := ?_) (some 67) rfl rfl (by kernel_rfl) (by kernel_rfl) (by kernel_rfl) (fun _ _ _ h => h) (Or.inl ⟨by rfl, ?_⟩) ?_
          rotate_left
          · intro w'; go_simp; rfl
          simp only [Act.put, List.setIfInBounds_toArray, List.set_cons_zero, List.set_cons_succ]
          refine wpAny_takeD (i := 7) (v := ?_) (some 68) rfl rfl (by kernel_rfl) (by kernel_rfl) (by kernel_rfl) (fun _ _ _ h => h) (Or.inl ⟨by rfl, ?_⟩) ?_
          rotate_left
          · intro w'; go_simp; rfl
          simp only [Act.put, List.setIfInBounds_toArray, List.set_cons_zero, List.set_cons_succ]
          refine wpAny_takeD (i := 8) (v := ?_) (some 69) rfl rfl (by kernel_rfl) (by kernel_rfl) (by kernel_rfl) (fun _ _ _ h => h) (Or.inl ⟨by rfl, ?_⟩) ?_
          rotate_left
          · intro w'; go_simp; rfl
          simp only [Act.put, List.setIfInBounds_toArray, List.set_cons_zero, List.set_cons_succ]
          refine wpAny_takeD (i := 10) (v := ?_) (some 71) rfl rfl (by kernel_rfl) (by kernel_rfl) (by kernel_rfl) (fun _ _ _ h => h) (Or.inl ⟨by rfl, ?_⟩) ?_
          rotate_left
          · intro w'; go_simp; rfl
          simp only [Act.put, List.setIfInBounds_toArray, List.set_cons_zero, List.set_cons_succ]
          refine wpAny_takeD (i := 11) (v := ?_) (some 72) rfl rfl (by kernel_rfl) (by kernel_rfl) (by kernel_rfl) (fun _ _ _ h => h) (Or.inl ⟨by rfl, ?_⟩) ?_
          rotate_left
          · intro w'; go_simp; rfl
          simp only [Act.put, List.setIfInBounds_toArray, List.set_cons_zero, List.set_cons_succ]
          refine wpAny_takeD (i := 12) (v := ?_) (some 73) rfl rfl (by kernel_rfl) (by kernel_rfl) (by kernel_rfl) (fun _ _ _ h => h) (Or.inl ⟨by rfl, ?_⟩) ?_
          rotate_left
          · intro w'; go_simp; rfl
          simp only [Act.put, List.setIfInBounds_toArray, List.set_cons_zero, List.set_cons_succ]
          refine wpAny_all (rs := [9, 13]) (by kernel_rfl) (by simp) fun jj hj => ?_
          simp only [List.mem_cons, List.not_mem_nil, or_false] at hj
          rcases hj with rfl | rfl
          refine wpOp_valE (w' := D) (some 70) rfl rfl rfl (Tryd_load6 rfl rfl hpD HZ.out) ?_
          simp only [Act.put, List.setIfInBounds_toArray, List.set_cons_zero, List.set_cons_succ]
          refine wpAny_runsD (i := 13) (w' := D) (some 74) (by kernel_rfl) rfl rfl (by rfl) (Tryd_load6 rfl rfl hpD HX.out) ?_
          rotate_left
          refine wpOp_valE (w' := D) (some 74) rfl rfl rfl (Tryd_load6 rfl rfl hpD HX.out) ?_
          simp only [Act.put, List.setIfInBounds_toArray, List.set_cons_zero, List.set_cons_succ]
          refine wpAny_runsD (i := 9) (w' := D) (some 70) (by kernel_rfl) rfl rfl (by rfl) (Tryd_load6 rfl rfl hpD HZ.out) ?_
          all_goals
            simp only [Act.put, List.setIfInBounds_toArray, List.set_cons_zero, List.set_cons_succ]
            refine wpAny_takeD (i := 14) (v := ?_) (some 75) rfl rfl (by kernel_rfl) (by kernel_rfl) (by kernel_rfl) (fun _ _ _ h => h) (Or.inl ⟨by rfl, ?_⟩) ?_
            rotate_left
            · intro w'; go_simp; rfl
            simp only [Act.put, List.setIfInBounds_toArray, List.set_cons_zero, List.set_cons_succ]
            refine wpAny_skipsD (i := 15) none (by kernel_rfl) rfl rfl (by rfl) (Tryd_store6 (e := z) rfl rfl rfl hpD HX.out) ?_
            simp only [Act.put, List.setIfInBounds_toArray, List.set_cons_zero, List.set_cons_succ]
            refine wpAny_takeD (i := 16) (v := ?_) (some 76) rfl rfl (by kernel_rfl) (by kernel_rfl) (by kernel_rfl) (fun _ _ _ h => h) (Or.inl ⟨by rfl, ?_⟩) ?_
            rotate_left
            · intro w'; go_simp; rfl
            simp only [Act.put, List.setIfInBounds_toArray, List.set_cons_zero, List.set_cons_succ]
            refine wpAny_skipsD (i := 17) none (by kernel_rfl) rfl rfl (by rfl) (Tryd_store6 (e := x) rfl rfl rfl hpD1 hJ1) ?_
            simp only [Act.put, List.setIfInBounds_toArray, List.set_cons_zero, List.set_cons_succ]
            refine wpAny_done (by kernel_rfl) ?_ _
          all_goals
            have HP3 := Lib.hid hp3
            have HO3 := Lib.hid (hon3 (· = g) w rfl HOC.out)
            clear hp3 hon3 mk lg
            go_wp2_with fail
            go_roundw
            case rel => exact ⟨k + 1, _, by omega, by omega, by have := HJ.out; go_num, HSEG.out.trans HSW.out (Nat.le_refl _) (Nat.le_refl _), HST.out, HP3.out, HO3.out⟩
            case measure => have := HJ.out; simp [intOf]; omega
        · have g2 : ¬ (k : Int) < (I1 : Int) := by omega
          have HSO := Lib.hid (show SortedS c a b from up_sorted (i := i) H2.out hai hjb (by have := HL.out; omega) HLO.out HHI.out (by have := HI1.out; rw [show i = k + 1 by omega]; exact HGET.out))
          go_wp2
          (try simp only [Exit.inBlock, Exit.then]); refine bodyPost_ret (results_none rfl _ _ _) rfl ?_
          exact ⟨rfl, c, ⟨HSEG.out, HSO.out⟩, HPC.out, HOC.out⟩
end Go.Proofs.YtmcmknndhppljaaDoor
