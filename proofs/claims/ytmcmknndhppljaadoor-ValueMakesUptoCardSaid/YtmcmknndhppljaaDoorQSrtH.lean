/-
  The merge of two sorted runs of pairs, walked: the second of one pair.
-/
import Derived.Test.YtmcmknndhppljaaDoorQSrtG
namespace Go.Proofs.YtmcmknndhppljaaDoor
set_option linter.unusedVariables false
set_option linter.unusedSimpArgs false
open Go.RowKit Go.Dav
attribute [local go_sem] Gives ite_val ite_val_true

set_option maxRecDepth 8000 in
set_option maxHeartbeats 16000000 in
theorem Tryd_symDown (g n cap a m : Nat) (l : List PairE) (w : World) (hl : l.length = n) (ham : a + 1 < m) (hbn : m + 1 ≤ n) (hnc : n ≤ cap) (hc : n ≤ 1073741824) (hp : PairsAt w g l 56) (h1 : SortedS l a m) :
    Calls Tryd.prog 95 #[.slice (some ⟨g, 0, none⟩) n cap, .int .i64 (a : Int), .int .i64 (m : Int), .int .i64 ((m + 1 : Nat) : Int), .func (.func 56) #[] #[]] w (TrydSorts w g l fun l' => SegP l l' a (m + 1) ∧ SortedS l' a (m + 1)) := by
  have HL := Lib.hid hl
  have HP := Lib.hid hp
  have H1 := Lib.hid h1
  have hen := Tryd_enter56
  have HCMP := Lib.hid (fun x y W => Tryd_cmpPair x y W)
  clear hl hp h1
  obtain ⟨D1, hD1⟩ : ∃ D1, m - a = D1 := ⟨_, rfl⟩
  have u0 : IntKind.i64.wrap ((m : Int) - (a : Int)) = (D1 : Int) := by rw [IntWalk.i64_in _ (by omega)]; omega
  have u0' : ((D1 : Int) == 1) = false := by rw [beq_eq_false_iff_ne]; omega
  have u1 : IntKind.i64.wrap (((m + 1 : Nat) : Int) - (m : Int)) = 1 := by rw [IntWalk.i64_in _ (by omega)]; omega
  have u1' : IntKind.i64.wrap ((m : Int) + 1 - (m : Int)) = 1 := by rw [IntWalk.i64_in _ (by omega)]; omega
  obtain ⟨y, hy⟩ : ∃ y, l[m]? = some y := ⟨_, List.getElem?_eq_getElem (by have := HL.out; omega)⟩
  have HY := Lib.hid hy
  clear hy
  go_enter Tryd.func95, Tryd.ntmps95
  go_wp2_with fail
  go_loopw [14, 15] (fun iv jv wr => ∃ i j : Nat, iv = .int .i64 i ∧ jv = .int .i64 j ∧ a ≤ i ∧ i ≤ j ∧ j ≤ m ∧ (∀ k x y, a ≤ k → k < i → l[k]? = some x → l[m]? = some y → kle x.key y.key) ∧ (∀ k x y, j ≤ k → k < m → l[k]? = some x → l[m]? = some y → kle y.key x.key) ∧ PairsAt wr g l 56 ∧ OnlyS (· = g) w wr) (fun iv jv _ => (intOf jv).toNat - (intOf iv).toNat)
  case atStart => exact ⟨a, m, rfl, rfl, Nat.le_refl _, by omega, Nat.le_refl _, fun k x y g1 g2 => by omega, fun k x y g1 g2 => by omega, HP.out, OnlyS.refl _ _⟩
  case round =>
    obtain ⟨i, j, rfl, rfl, hai, hij, hjb, hlo, hhi, hpa, hon⟩ := hrel
    have HLO := Lib.hid hlo
    have HHI := Lib.hid hhi
    have HPA := Lib.hid hpa
    have HON := Lib.hid hon
    clear hlo hhi hpa hon u1 u1' u0 u0'
    by_cases hlt : i < j
    · obtain ⟨h, hh⟩ : ∃ h, (i + j) / 2 = h := ⟨_, rfl⟩
      have hih : i ≤ h := by omega
      have hhj : h < j := by omega
      have e1 : ((i : Int) + (j : Int)) / 2 = (h : Int) := by omega
      have g1 : (i : Int) < (j : Int) := by omega
      have gh : (h : Int) < (n : Int) := by omega
      have ga : (m : Int) < (n : Int) := by omega
      have hj6 : (j : Int) ≤ 1073741824 := by omega
      obtain ⟨x, hx⟩ : ∃ x, l[h]? = some x := ⟨_, List.getElem?_eq_getElem (by have := HL.out; omega)⟩
      obtain ⟨x0, x1, x2, x3, x4, x5⟩ := HPA.out.get hx
      obtain ⟨y0, y1, y2, y3, y4, y5⟩ := HPA.out.get HY.out
      have lg := HPA.out.lt
      have HX := Lib.hid hx
      have HIH := Lib.hid hih
      have HHJ := Lib.hid hhj
      have hdec := cmp_neg y.key x.key
      have hcall := fun W => HCMP.out y x W
      obtain ⟨c, hcc⟩ : ∃ c, cmpOf y.key x.key = c := ⟨_, rfl⟩
      rw [hcc] at hdec hcall
      have HCALL := Lib.hid hcall
      clear hx hh hih hhj hcall hcc
      cases hk : kless y.key x.key with
      | false =>
        rw [hk] at hdec
        have hdec2 : ¬ c < 0 := by simpa using hdec
        have HLO2 := Lib.hid (show ∀ k x' y', a ≤ k → k < h + 1 → l[k]? = some x' → l[m]? = some y' → kle x'.key y'.key from fun k x' y' g1 g2 hx' hy' => by
          rw [HY.out] at hy'; cases hy'
          exact kle_trans (H1.out k h x' x g1 (by omega) (by have := HHJ.out; omega) hx' HX.out) (show kle x.key y.key from hk))
        clear hk
        go_wp2_with fail
        refine' wp_region_seq [.inl _, .inl _, .inl _, .inl _, .inl _, .inl _, .inl _, .inl _, .inl _, .inl _, .inl _, .inl _] (by kernel_rfl) (by kernel_rfl) ?main1
        case main1 =>
          refine wpParts_det (by rfl) (fun W hE hN => ?_) ?_
          · go_simp; refine ⟨Below.refl _ _, ?_⟩; rfl
          simp only [Act.put, List.setIfInBounds_toArray, List.set_cons_zero, List.set_cons_succ]
          refine wpParts_det (by rfl) (fun W hE hN => ?_) ?_
          · go_simp; refine ⟨Below.refl _ _, ?_⟩; rfl
          simp only [Act.put, List.setIfInBounds_toArray, List.set_cons_zero, List.set_cons_succ]
          refine wpParts_det (by rfl) (fun W hE hN => ?_) ?_
          · go_simp; refine ⟨Below.refl _ _, ?_⟩; rfl
          simp only [Act.put, List.setIfInBounds_toArray, List.set_cons_zero, List.set_cons_succ]
          refine wpParts_det (by rfl) (fun W hE hN => ?_) ?_
          · go_simp; refine ⟨Below.refl _ _, ?_⟩; rfl
          simp only [Act.put, List.setIfInBounds_toArray, List.set_cons_zero, List.set_cons_succ]
          refine wpParts_det (by rfl) (fun W hE hN => ?_) ?_
          · have hc := fun b o h => hE.cell (p := ⟨b, o, none⟩) h
            go_simp; refine ⟨Below.refl _ _, ?_⟩; rfl
          simp only [Act.put, List.setIfInBounds_toArray, List.set_cons_zero, List.set_cons_succ]
          refine wpParts_det (by rfl) (fun W hE hN => ?_) ?_
          · go_simp; refine ⟨Below.refl _ _, ?_⟩; rfl
          simp only [Act.put, List.setIfInBounds_toArray, List.set_cons_zero, List.set_cons_succ]
          refine wpParts_det (by rfl) (fun W hE hN => ?_) ?_
          · go_simp; refine ⟨Below.refl _ _, ?_⟩; rfl
          simp only [Act.put, List.setIfInBounds_toArray, List.set_cons_zero, List.set_cons_succ]
          refine wpParts_det (by rfl) (fun W hE hN => ?_) ?_
          · go_simp; refine ⟨Below.refl _ _, ?_⟩; rfl
          simp only [Act.put, List.setIfInBounds_toArray, List.set_cons_zero, List.set_cons_succ]
          refine wpParts_det (by rfl) (fun W hE hN => ?_) ?_
          · have hc := fun b o h => hE.cell (p := ⟨b, o, none⟩) h
            go_simp; refine ⟨Below.refl _ _, ?_⟩; rfl
          simp only [Act.put, List.setIfInBounds_toArray, List.set_cons_zero, List.set_cons_succ]
          refine wpParts_det (by rfl) (fun W hE hN => ?_) ?_
          · go_simp; refine ⟨Below.refl _ _, ?_⟩; refine (HCALL.out W).mono ?_; rintro e w' ⟨rfl, hb⟩; refine ⟨?_, hb⟩; rfl
          simp only [Act.put, List.setIfInBounds_toArray, List.set_cons_zero, List.set_cons_succ]
          refine wpParts_det (by rfl) (fun W hE hN => ?_) ?_
          · go_simp; refine ⟨Below.refl _ _, ?_⟩; rfl
          simp only [Act.put, List.setIfInBounds_toArray, List.set_cons_zero, List.set_cons_succ]
          refine wpParts_det (by rfl) (fun W hE hN => ?_) ?_
          · go_simp; refine ⟨Below.refl _ _, ?_⟩; rfl
          simp only [Act.put, List.setIfInBounds_toArray, List.set_cons_zero, List.set_cons_succ]
          refine wpParts_end fun W2 hE2 hG2 => ?_
          have hcW2 := fun b o h => hE2.cell (p := ⟨b, o, none⟩) h
          have hfW2 := fun b o h => hE2.frozen (p := ⟨b, o, none⟩) h
          have HP2 := Lib.hid (HPA.out.ext hE2)
          have HO2 := Lib.hid (HON.out.ext hE2)
          clear hE2 hcW2 hfW2 lg x0 x1 x2 x3 x4 x5 y0 y1 y2 y3 y4 y5
          go_wp2_with fail
          go_roundw
          case rel => first | exact ⟨h + 1, j, by go_num, rfl, by have := HIH.out; omega, HHJ.out, hjb, HLO2.out, HHI.out, HP2.out, HO2.out⟩ | ((repeat apply Exists.intro); exact ⟨⟨h + 1, j, by go_num, rfl, by have := HIH.out; omega, HHJ.out, hjb, HLO2.out, HHI.out, HP2.out, HO2.out⟩, rfl⟩)
          case measure => have := HIH.out; have := HHJ.out; simp [intOf]; omega
      | true =>
        rw [hk] at hdec
        have hdec2 : c < 0 := by simpa using hdec
        have HHI2 := Lib.hid (show ∀ k x' y', h ≤ k → k < m → l[k]? = some x' → l[m]? = some y' → kle y'.key x'.key from fun k x' y' g1 g2 hx' hy' => by
          rw [HY.out] at hy'; cases hy'
          exact kle_trans (kle_of_less hk) (H1.out h k x x' (by have := HIH.out; omega) g1 g2 HX.out hx'))
        clear hk
        go_wp2_with fail
        refine' wp_region_seq [.inl _, .inl _, .inl _, .inl _, .inl _, .inl _, .inl _, .inl _, .inl _, .inl _, .inl _, .inl _] (by kernel_rfl) (by kernel_rfl) ?main2
        case main2 =>
          refine wpParts_det (by rfl) (fun W hE hN => ?_) ?_
          · go_simp; refine ⟨Below.refl _ _, ?_⟩; rfl
          simp only [Act.put, List.setIfInBounds_toArray, List.set_cons_zero, List.set_cons_succ]
          refine wpParts_det (by rfl) (fun W hE hN => ?_) ?_
          · go_simp; refine ⟨Below.refl _ _, ?_⟩; rfl
          simp only [Act.put, List.setIfInBounds_toArray, List.set_cons_zero, List.set_cons_succ]
          refine wpParts_det (by rfl) (fun W hE hN => ?_) ?_
          · go_simp; refine ⟨Below.refl _ _, ?_⟩; rfl
          simp only [Act.put, List.setIfInBounds_toArray, List.set_cons_zero, List.set_cons_succ]
          refine wpParts_det (by rfl) (fun W hE hN => ?_) ?_
          · go_simp; refine ⟨Below.refl _ _, ?_⟩; rfl
          simp only [Act.put, List.setIfInBounds_toArray, List.set_cons_zero, List.set_cons_succ]
          refine wpParts_det (by rfl) (fun W hE hN => ?_) ?_
          · have hc := fun b o h => hE.cell (p := ⟨b, o, none⟩) h
            go_simp; refine ⟨Below.refl _ _, ?_⟩; rfl
          simp only [Act.put, List.setIfInBounds_toArray, List.set_cons_zero, List.set_cons_succ]
          refine wpParts_det (by rfl) (fun W hE hN => ?_) ?_
          · go_simp; refine ⟨Below.refl _ _, ?_⟩; rfl
          simp only [Act.put, List.setIfInBounds_toArray, List.set_cons_zero, List.set_cons_succ]
          refine wpParts_det (by rfl) (fun W hE hN => ?_) ?_
          · go_simp; refine ⟨Below.refl _ _, ?_⟩; rfl
          simp only [Act.put, List.setIfInBounds_toArray, List.set_cons_zero, List.set_cons_succ]
          refine wpParts_det (by rfl) (fun W hE hN => ?_) ?_
          · go_simp; refine ⟨Below.refl _ _, ?_⟩; rfl
          simp only [Act.put, List.setIfInBounds_toArray, List.set_cons_zero, List.set_cons_succ]
          refine wpParts_det (by rfl) (fun W hE hN => ?_) ?_
          · have hc := fun b o h => hE.cell (p := ⟨b, o, none⟩) h
            go_simp; refine ⟨Below.refl _ _, ?_⟩; rfl
          simp only [Act.put, List.setIfInBounds_toArray, List.set_cons_zero, List.set_cons_succ]
          refine wpParts_det (by rfl) (fun W hE hN => ?_) ?_
          · go_simp; refine ⟨Below.refl _ _, ?_⟩; refine (HCALL.out W).mono ?_; rintro e w' ⟨rfl, hb⟩; refine ⟨?_, hb⟩; rfl
          simp only [Act.put, List.setIfInBounds_toArray, List.set_cons_zero, List.set_cons_succ]
          refine wpParts_det (by rfl) (fun W hE hN => ?_) ?_
          · go_simp; refine ⟨Below.refl _ _, ?_⟩; rfl
          simp only [Act.put, List.setIfInBounds_toArray, List.set_cons_zero, List.set_cons_succ]
          refine wpParts_det (by rfl) (fun W hE hN => ?_) ?_
          · go_simp; refine ⟨Below.refl _ _, ?_⟩; rfl
          simp only [Act.put, List.setIfInBounds_toArray, List.set_cons_zero, List.set_cons_succ]
          refine wpParts_end fun W2 hE2 hG2 => ?_
          have hcW2 := fun b o h => hE2.cell (p := ⟨b, o, none⟩) h
          have hfW2 := fun b o h => hE2.frozen (p := ⟨b, o, none⟩) h
          have HP2 := Lib.hid (HPA.out.ext hE2)
          have HO2 := Lib.hid (HON.out.ext hE2)
          clear hE2 hcW2 hfW2 lg x0 x1 x2 x3 x4 x5 y0 y1 y2 y3 y4 y5
          go_wp2_with fail
          go_roundw
          case rel => first | exact ⟨i, h, rfl, rfl, hai, HIH.out, by have := HHJ.out; omega, HLO.out, HHI2.out, HP2.out, HO2.out⟩ | ((repeat apply Exists.intro); exact ⟨⟨i, h, rfl, rfl, hai, HIH.out, by have := HHJ.out; omega, HLO.out, HHI2.out, HP2.out, HO2.out⟩, rfl⟩)
          case measure => have := HIH.out; have := HHJ.out; simp [intOf]; omega
    · have g1 : ¬ (i : Int) < (j : Int) := by omega
      obtain rfl : i = j := by omega
      clear hlt
      go_wp2_with fail
      go_loopw [17] (fun kv wv => ∃ (k : Nat) (c : List PairE), i ≤ k ∧ k ≤ m ∧ kv = .int .i64 (k : Int) ∧ SegP l c a (m + 1) ∧ (∀ p, c[p]? = rotGet l k m (m + 1) p) ∧ PairsAt wv g c 56 ∧ OnlyS (· = g) w wv) (fun kv _ => (intOf kv).toNat)
      case atStart => exact ⟨m, l, by omega, Nat.le_refl _, rfl, SegP.refl _ _ _, rot_id (.inl rfl), HPA.out, HON.out⟩
      case round =>
        obtain ⟨k, c, hak, hki, rfl, hseg, hget, hpc, hoc⟩ := hrel
        have HSEG := Lib.hid hseg
        have HGET := Lib.hid hget
        have HPC := Lib.hid hpc
        have HOC := Lib.hid hoc
        have hcl : c.length = n := hseg.len.trans HL.out
        clear hseg hget hpc hoc
        by_cases hkl : i < k
        · have g2 : (i : Int) < (k : Int) := by omega
          obtain ⟨J, hJ⟩ : ∃ J, J + 1 = k := ⟨k - 1, by omega⟩
          have u3 : IntKind.i64.wrap ((k : Int) - 1) = (J : Int) := by rw [IntWalk.i64_in _ (by omega)]; omega
          have gk : (k : Int) < (n : Int) := by omega
          have gj : (J : Int) < (n : Int) := by omega
          obtain ⟨x, hx⟩ : ∃ x, c[k]? = some x := ⟨_, List.getElem?_eq_getElem (by omega)⟩
          obtain ⟨z, hz⟩ : ∃ z, c[J]? = some z := ⟨_, List.getElem?_eq_getElem (by omega)⟩
          have HX := Lib.hid hx
          have HZ := Lib.hid hz
          have HST := Lib.hid (show ∀ p, ((c.set k z).set J x)[p]? = rotGet l J m (m + 1) p from by
            have hg := HGET.out
            rw [← hJ] at hx hg ⊢
            exact down_step hg (by omega) hx hz)
          have HSW := Lib.hid (swap_seg (a := a) (b := m + 1) hx hz ⟨by omega, by omega⟩ ⟨by omega, by omega⟩)
          have HJ := Lib.hid hJ
          have mk := HPC.out.marks
          have lg := HPC.out.lt
          clear hx hz hJ hcl
          go_wp2_with fail
          refine wp_region_any (by kernel_rfl) ?_
          obtain ⟨D, hD⟩ : ∃ D, ({ wr with drawn := wr.drawn + 1 } : World) = D := ⟨_, rfl⟩
          have hpD : PairsAt D g c 56 := by rw [← hD]; exact HPC.out
          have honD : ∀ (p : Nat → Prop) (w0 : World), OnlyS p w0 wr → OnlyS p w0 D := fun p w0 h => by rw [← hD]; exact h.ext (Below.refl _ _).drew
          first | rw [hD] | rw [show _ = D from hD]
          have hpD1 : PairsAt (set6W D g k z) g (c.set k z) 56 := hpD.set (List.getElem?_eq_some_iff.1 HX.out).1 z
          have hJ1 : ∃ e0, (c.set k z)[J]? = some e0 := ⟨_, List.getElem?_eq_getElem (by rw [List.length_set]; exact (List.getElem?_eq_some_iff.1 HZ.out).1)⟩
          obtain ⟨e0, hJ1⟩ := hJ1
          have hp3 : PairsAt (set6W (set6W D g k z) g J x) g ((c.set k z).set J x) 56 := hpD1.set (List.getElem?_eq_some_iff.1 hJ1).1 x
          have hon3 : ∀ (p : Nat → Prop) (w0 : World), p g → OnlyS p w0 wr → OnlyS p w0 (set6W (set6W D g k z) g J x) := fun p w0 hg h => onlyS_set6 (onlyS_set6 (honD p w0 h) hg) hg
          clear hD honD
          refine wpAny_takeD (i := 0) (v := ?_) (some 113) rfl rfl (by kernel_rfl) (by kernel_rfl) (by kernel_rfl) (fun _ _ _ h => h) (Or.inl ⟨by rfl, ?_⟩) ?_
          rotate_left
          · intro w'; go_simp; rfl
          simp only [Act.put, List.setIfInBounds_toArray, List.set_cons_zero, List.set_cons_succ]
          refine wpAny_takeD (i := 1) (v := ?_) (some 114) rfl rfl (by kernel_rfl) (by kernel_rfl) (by kernel_rfl) (fun _ _ _ h => h) (Or.inl ⟨by rfl, ?_⟩) ?_
          rotate_left
          · intro w'; go_simp; rfl
          simp only [Act.put, List.setIfInBounds_toArray, List.set_cons_zero, List.set_cons_succ]
          refine wpAny_takeD (i := 2) (v := ?_) (some 115) rfl rfl (by kernel_rfl) (by kernel_rfl) (by kernel_rfl) (fun _ _ _ h => h) (Or.inl ⟨by rfl, ?_⟩) ?_
          rotate_left
          · intro w'; go_simp; rfl
          simp only [Act.put, List.setIfInBounds_toArray, List.set_cons_zero, List.set_cons_succ]
          refine wpAny_takeD (i := 3) (v := ?_) (some 116) rfl rfl (by kernel_rfl) (by kernel_rfl) (by kernel_rfl) (fun _ _ _ h => h) (Or.inl ⟨by rfl, ?_⟩) ?_
          rotate_left
          · intro w'; go_simp; rfl
          simp only [Act.put, List.setIfInBounds_toArray, List.set_cons_zero, List.set_cons_succ]
          refine wpAny_takeD (i := 4) (v := ?_) (some 117) rfl rfl (by kernel_rfl) (by kernel_rfl) (by kernel_rfl) (fun _ _ _ h => h) (Or.inl ⟨by rfl, ?_⟩) ?_
          rotate_left
          · intro w'; go_simp; rfl
          simp only [Act.put, List.setIfInBounds_toArray, List.set_cons_zero, List.set_cons_succ]
          refine wpAny_takeD (i := 5) (v := ?_) (some 118) rfl rfl (by kernel_rfl) (by kernel_rfl) (by kernel_rfl) (fun _ _ _ h => h) (Or.inl ⟨by rfl, ?_⟩) ?_
          rotate_left
          · intro w'; go_simp; rfl
          simp only [Act.put, List.setIfInBounds_toArray, List.set_cons_zero, List.set_cons_succ]
          refine wpAny_takeD (i := 6) (v := ?_) (some 119) rfl rfl (by kernel_rfl) (by kernel_rfl) (by kernel_rfl) (fun _ _ _ h => h) (Or.inl ⟨by rfl, ?_⟩) ?_
          rotate_left
          · intro w'; go_simp; rfl
          simp only [Act.put, List.setIfInBounds_toArray, List.set_cons_zero, List.set_cons_succ]
          refine wpAny_takeD (i := 7) (v := ?_) (some 120) rfl rfl (by kernel_rfl) (by kernel_rfl) (by kernel_rfl) (fun _ _ _ h => h) (Or.inl ⟨by rfl, ?_⟩) ?_
          rotate_left
          · intro w'; go_simp; rfl
          simp only [Act.put, List.setIfInBounds_toArray, List.set_cons_zero, List.set_cons_succ]
          refine wpAny_takeD (i := 8) (v := ?_) (some 121) rfl rfl (by kernel_rfl) (by kernel_rfl) (by kernel_rfl) (fun _ _ _ h => h) (Or.inl ⟨by rfl, ?_⟩) ?_
          rotate_left
          · intro w'; go_simp; rfl
          simp only [Act.put, List.setIfInBounds_toArray, List.set_cons_zero, List.set_cons_succ]
          refine wpAny_takeD (i := 10) (v := ?_) (some 123) rfl rfl (by kernel_rfl) (by kernel_rfl) (by kernel_rfl) (fun _ _ _ h => h) (Or.inl ⟨by rfl, ?_⟩) ?_
          rotate_left
          · intro w'; go_simp; rfl
          simp only [Act.put, List.setIfInBounds_toArray, List.set_cons_zero, List.set_cons_succ]
          refine wpAny_takeD (i := 11) (v := ?_) (some 124) rfl rfl (by kernel_rfl) (by kernel_rfl) (by kernel_rfl) (fun _ _ _ h => h) (Or.inl ⟨by rfl, ?_⟩) ?_
          rotate_left
          · intro w'; go_simp; rfl
          simp only [Act.put, List.setIfInBounds_toArray, List.set_cons_zero, List.set_cons_succ]
          refine wpAny_takeD (i := 12) (v := ?_) (some 125) rfl rfl (by kernel_rfl) (by kernel_rfl) (by kernel_rfl) (fun _ _ _ h => h) (Or.inl ⟨by rfl, ?_⟩) ?_
          rotate_left
          · intro w'; go_simp; rfl
          simp only [Act.put, List.setIfInBounds_toArray, List.set_cons_zero, List.set_cons_succ]
          refine wpAny_all (rs := [9, 13]) (by kernel_rfl) (by simp) fun jj hj => ?_
          simp only [List.mem_cons, List.not_mem_nil, or_false] at hj
          rcases hj with rfl | rfl
          refine wpOp_valE (w' := D) (some 122) rfl rfl rfl (Tryd_load6 rfl rfl hpD HZ.out) ?_
          simp only [Act.put, List.setIfInBounds_toArray, List.set_cons_zero, List.set_cons_succ]
          refine wpAny_runsD (i := 13) (w' := D) (some 126) (by kernel_rfl) rfl rfl (by rfl) (Tryd_load6 rfl rfl hpD HX.out) ?_
          rotate_left
          refine wpOp_valE (w' := D) (some 126) rfl rfl rfl (Tryd_load6 rfl rfl hpD HX.out) ?_
          simp only [Act.put, List.setIfInBounds_toArray, List.set_cons_zero, List.set_cons_succ]
          refine wpAny_runsD (i := 9) (w' := D) (some 122) (by kernel_rfl) rfl rfl (by rfl) (Tryd_load6 rfl rfl hpD HZ.out) ?_
          all_goals
            simp only [Act.put, List.setIfInBounds_toArray, List.set_cons_zero, List.set_cons_succ]
            refine wpAny_takeD (i := 14) (v := ?_) (some 127) rfl rfl (by kernel_rfl) (by kernel_rfl) (by kernel_rfl) (fun _ _ _ h => h) (Or.inl ⟨by rfl, ?_⟩) ?_
            rotate_left
            · intro w'; go_simp; rfl
            simp only [Act.put, List.setIfInBounds_toArray, List.set_cons_zero, List.set_cons_succ]
            refine wpAny_skipsD (i := 15) none (by kernel_rfl) rfl rfl (by rfl) (Tryd_store6 (e := z) rfl rfl rfl hpD HX.out) ?_
            simp only [Act.put, List.setIfInBounds_toArray, List.set_cons_zero, List.set_cons_succ]
            refine wpAny_takeD (i := 16) (v := ?_) (some 128) rfl rfl (by kernel_rfl) (by kernel_rfl) (by kernel_rfl) (fun _ _ _ h => h) (Or.inl ⟨by rfl, ?_⟩) ?_
            rotate_left
            · intro w'; go_simp; rfl
            simp only [Act.put, List.setIfInBounds_toArray, List.set_cons_zero, List.set_cons_succ]
            refine wpAny_skipsD (i := 17) none (by kernel_rfl) rfl rfl (by rfl) (Tryd_store6 (e := x) rfl rfl rfl hpD1 hJ1) ?_
            simp only [Act.put, List.setIfInBounds_toArray, List.set_cons_zero, List.set_cons_succ]
            refine wpAny_done (by kernel_rfl) ?_ _
          all_goals
            have HP3 := Lib.hid hp3
            have HO3 := Lib.hid (hon3 (· = g) w rfl HOC.out)
            clear hp3 hon3 mk lg
            go_wp2_with fail
            go_roundw
            case rel => exact ⟨J, _, by have := HJ.out; omega, by have := HJ.out; omega, by go_num, HSEG.out.trans HSW.out (Nat.le_refl _) (Nat.le_refl _), HST.out, HP3.out, HO3.out⟩
            case measure => have := HJ.out; simp [intOf]; omega
        · have g2 : ¬ (i : Int) < (k : Int) := by omega
          obtain rfl : i = k := by omega
          have HSO := Lib.hid (show SortedS c a (m + 1) from down_sorted H1.out hai hjb HLO.out HHI.out HGET.out)
          go_wp2
          (try simp only [Exit.inBlock, Exit.then]); refine bodyPost_ret (results_none rfl _ _ _) rfl ?_
          exact ⟨rfl, c, ⟨HSEG.out, HSO.out⟩, HPC.out, HOC.out⟩
end Go.Proofs.YtmcmknndhppljaaDoor
