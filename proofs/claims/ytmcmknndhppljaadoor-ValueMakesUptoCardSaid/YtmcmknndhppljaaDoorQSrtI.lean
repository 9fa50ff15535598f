/-
  The merge of two sorted runs of pairs, walked.
-/
import Derived.Test.YtmcmknndhppljaaDoorQSrtH
namespace Go.Dav
set_option linter.unusedVariables false
set_option linter.unusedSimpArgs false
open Go Go.RowKit
theorem SegP.sorted {c c2 : List PairE} {a mid x y : Nat} (h : SegP c c2 a mid) (hx : mid ≤ x) (ho : SortedS c x y) : SortedS c2 x y := fun i j u v g1 g2 g3 hu hv => ho i j u v g1 g2 g3 (by rw [← h.out i (.inr (by omega))]; exact hu) (by rw [← h.out j (.inr (by omega))]; exact hv)
end Go.Dav
namespace Go.Proofs.YtmcmknndhppljaaDoor
set_option linter.unusedVariables false
set_option linter.unusedSimpArgs false
open Go.RowKit Go.Dav
attribute [local go_sem] Gives ite_val ite_val_true

set_option maxRecDepth 8000 in
set_option maxHeartbeats 16000000 in
theorem Tryd_symMerge (N : Nat) : ∀ (g n cap a m b : Nat) (l : List PairE) (w : World), b - a ≤ N → l.length = n → a < m → m < b → b ≤ n → n ≤ cap → n ≤ 1073741824 → PairsAt w g l 56 → SortedS l a m → SortedS l m b →
    Calls Tryd.prog 95 #[.slice (some ⟨g, 0, none⟩) n cap, .int .i64 (a : Int), .int .i64 (m : Int), .int .i64 (b : Int), .func (.func 56) #[] #[]] w (TrydSorts w g l fun l' => SegP l l' a b ∧ SortedS l' a b) := by
  induction N with
  | zero => intro g n cap a m b l w hN hl ham hmb; omega
  | succ N ih =>
    intro g n cap a m b l w hN hl ham hmb hbn hnc hc hp h1 h2
    by_cases c1 : m = a + 1
    · subst c1
      exact Tryd_symUp g n cap a b l w hl hmb hbn hnc hc hp h2
    by_cases c2 : b = m + 1
    · subst c2
      exact Tryd_symDown g n cap a m l w hl (by omega) hbn hnc hc hp h1
    have HL := Lib.hid hl
    have HP := Lib.hid hp
    have H1 := Lib.hid h1
    have H2 := Lib.hid h2
    have hen := Tryd_enter56
    have IH := Lib.hid ih
    clear ih
    have HCMP := Lib.hid (fun x y W => Tryd_cmpPair x y W)
    clear hl hp h1 h2
    obtain ⟨D1, hD1⟩ : ∃ D1, m - a = D1 := ⟨_, rfl⟩
    obtain ⟨D2, hD2⟩ : ∃ D2, b - m = D2 := ⟨_, rfl⟩
    have u0 : IntKind.i64.wrap ((m : Int) - (a : Int)) = (D1 : Int) := by rw [IntWalk.i64_in _ (by omega)]; omega
    have u0' : ((D1 : Int) == 1) = false := by rw [beq_eq_false_iff_ne]; omega
    have u1 : IntKind.i64.wrap ((b : Int) - (m : Int)) = (D2 : Int) := by rw [IntWalk.i64_in _ (by omega)]; omega
    have u1' : ((D2 : Int) == 1) = false := by rw [beq_eq_false_iff_ne]; omega
    clear hD1 hD2 c1 c2
    obtain ⟨mid, hmid⟩ : ∃ mid, (a + b) / 2 = mid := ⟨_, rfl⟩
    have e0 : ((a : Int) + (b : Int)) / 2 = (mid : Int) := by omega
    have hb6 : (b : Int) ≤ 1073741824 := by omega
    obtain ⟨nn, hnn⟩ : ∃ nn, mid + m = nn := ⟨_, rfl⟩
    have v1 : IntKind.i64.wrap ((mid : Int) + (m : Int)) = (nn : Int) := by rw [IntWalk.i64_in _ (by omega)]; omega
    obtain ⟨P1, hP1⟩ : ∃ P1, P1 + 1 = nn := ⟨nn - 1, by omega⟩
    have v2 : IntKind.i64.wrap ((nn : Int) - 1) = (P1 : Int) := by rw [IntWalk.i64_in _ (by omega)]; omega
    have hmab : a < mid := by omega
    have hmbb : mid < b := by omega
    have hmlo : mid + mid ≤ a + b := by omega
    have HNN := Lib.hid hnn
    have HP1 := Lib.hid hP1
    have HMLO := Lib.hid hmlo
    clear hmid hnn hP1 hmlo
    obtain ⟨S0, R0, hyes, hno, hS0⟩ : ∃ S0 R0 : Nat, (mid < m → S0 + b = nn ∧ R0 = mid) ∧ (¬ mid < m → S0 = a ∧ R0 = m) ∧ (a ≤ S0 ∧ S0 ≤ R0 ∧ R0 ≤ m ∧ R0 ≤ mid ∧ nn ≤ b + S0 ∧ (S0 = a ∨ nn = b + S0) ∧ (R0 = m ∨ R0 = mid)) := by
      have := HNN.out
      have := HMLO.out
      by_cases hgt : mid < m
      · exact ⟨nn - b, mid, fun _ => ⟨by omega, rfl⟩, fun h => (h hgt).elim, by omega⟩
      · exact ⟨a, m, fun h => (hgt h).elim, fun _ => ⟨rfl, rfl⟩, by omega⟩
    have HYES := Lib.hid hyes
    have HNO := Lib.hid hno
    have HS0 := Lib.hid hS0
    clear hyes hno hS0
    go_enter Tryd.func95, Tryd.ntmps95
    go_upto_if 140 with fail
    go_cut [20, 21] from 138 to 146 (fun s20 s21 wc => s20 = .int .i64 (S0 : Int) ∧ s21 = .int .i64 (R0 : Int) ∧ w = wc)
    case first =>
      by_cases hgt : mid < m
      · have g0 : (mid : Int) < (m : Int) := by omega
        have g0' : decide ((mid : Int) < (m : Int)) = true := decide_eq_true g0
        have g0'' : decide (mid < m) = true := decide_eq_true hgt
        obtain ⟨h1, h2⟩ := HYES.out hgt
        have v3 : IntKind.i64.wrap ((nn : Int) - (b : Int)) = (S0 : Int) := by have := HS0.out; rw [IntWalk.i64_in _ (by omega)]; omega
        have HR0 := Lib.hid h2
        clear h1 h2
        go_wp2_with fail
        go_meet
        case rel => first | exact ⟨rfl, by rw [HR0.out], rfl⟩ | exact ⟨⟨rfl, by rw [HR0.out], rfl⟩, rfl⟩ | ((repeat apply Exists.intro); exact ⟨⟨rfl, by rw [HR0.out], rfl⟩, rfl⟩)
      · have g0 : ¬ (mid : Int) < (m : Int) := by omega
        have g0' : decide ((mid : Int) < (m : Int)) = false := decide_eq_false g0
        have g0'' : decide (mid < m) = false := decide_eq_false hgt
        have HR0 := Lib.hid (HNO.out hgt)
        go_wp2_with fail
        go_meet
        case rel => first | exact ⟨by rw [HR0.out.1], by rw [HR0.out.2], rfl⟩ | exact ⟨⟨by rw [HR0.out.1], by rw [HR0.out.2], rfl⟩, rfl⟩ | ((repeat apply Exists.intro); exact ⟨⟨by rw [HR0.out.1], by rw [HR0.out.2], rfl⟩, rfl⟩)
    case rest =>
      obtain ⟨rfl, rfl, rfl⟩ := hcut
      clear u0 u0' u1 u1' e0 v1
      go_wp2_with fail
      go_loopw [20, 21] (fun iv jv wr => ∃ s r : Nat, iv = .int .i64 s ∧ jv = .int .i64 r ∧ S0 ≤ s ∧ s ≤ r ∧ r ≤ R0 ∧ (s = S0 ∨ ∀ x y, l[s - 1]? = some x → l[nn - s]? = some y → kle x.key y.key) ∧ (r = R0 ∨ ∀ x y, l[nn - 1 - r]? = some x → l[r]? = some y → kle x.key y.key) ∧ PairsAt wr g l 56 ∧ OnlyS (· = g) w wr) (fun iv jv _ => (intOf jv).toNat - (intOf iv).toNat)
      case atStart => exact ⟨S0, R0, rfl, rfl, Nat.le_refl _, HS0.out.2.1, Nat.le_refl _, .inl rfl, .inl rfl, HP.out, OnlyS.refl _ _⟩
      case round =>
        obtain ⟨s, r, rfl, rfl, hai, hij, hjb, hA, hB, hpa, hon⟩ := hrel
        have HA := Lib.hid hA
        have HB := Lib.hid hB
        have HPA := Lib.hid hpa
        have HON := Lib.hid hon
        clear hA hB hpa hon v2
        by_cases hlt : s < r
        · obtain ⟨h, hh⟩ : ∃ h, (s + r) / 2 = h := ⟨_, rfl⟩
          have hih : s ≤ h := by omega
          have hhj : h < r := by omega
          have e1 : ((s : Int) + (r : Int)) / 2 = (h : Int) := by omega
          have g1 : (s : Int) < (r : Int) := by omega
          have hR6 : (r : Int) ≤ 1073741824 := by have := HS0.out; omega
          have hhn : h < n := by have := HS0.out; omega
          obtain ⟨Q, hQ⟩ : ∃ Q, Q + h = P1 := ⟨P1 - h, by have := HS0.out; have := HP1.out; have := HNN.out; omega⟩
          have hQb : m ≤ Q ∧ Q < b := by have := HS0.out; have := HP1.out; have := HNN.out; omega
          have v5 : IntKind.i64.wrap ((P1 : Int) - (h : Int)) = (Q : Int) := by rw [IntWalk.i64_in _ (by omega)]; omega
          have gh : (h : Int) < (n : Int) := by omega
          have gq : (Q : Int) < (n : Int) := by omega
          obtain ⟨x, hx⟩ : ∃ x, l[h]? = some x := ⟨_, List.getElem?_eq_getElem (by have := HL.out; omega)⟩
          obtain ⟨y, hy⟩ : ∃ y, l[Q]? = some y := ⟨_, List.getElem?_eq_getElem (by have := HL.out; omega)⟩
          obtain ⟨x0, x1, x2, x3, x4, x5⟩ := HPA.out.get hx
          obtain ⟨y0, y1, y2, y3, y4, y5⟩ := HPA.out.get hy
          have lg := HPA.out.lt
          have HX := Lib.hid hx
          have HY := Lib.hid hy
          have HIH := Lib.hid hih
          have HHJ := Lib.hid hhj
          have HQ := Lib.hid hQ
          have hdec := cmp_neg y.key x.key
          have hcall := fun W => HCMP.out y x W
          obtain ⟨c, hcc⟩ : ∃ c, cmpOf y.key x.key = c := ⟨_, rfl⟩
          rw [hcc] at hdec hcall
          have HCALL := Lib.hid hcall
          clear hx hy hh hih hhj hcall hcc hQ hQb
          cases hk : kless y.key x.key with
          | false =>
            rw [hk] at hdec
            have hdec2 : ¬ c < 0 := by simpa using hdec
            have HA2 := Lib.hid (show h + 1 = S0 ∨ ∀ x y, l[h + 1 - 1]? = some x → l[nn - (h + 1)]? = some y → kle x.key y.key from .inr fun x' y' hx' hy' => by
              rw [Nat.add_sub_cancel, HX.out] at hx'; cases hx'
              rw [show nn - (h + 1) = Q by have := HQ.out; have := HP1.out; omega, HY.out] at hy'; cases hy'
              exact hk)
            clear hk
            go_wp2_with fail
            refine' wp_region_seq [.inl _, .inl _, .inl _, .inl _, .inl _, .inl _, .inl _, .inl _, .inl _, .inl _, .inl _, .inl _, .inl _, .inl _] (by kernel_rfl) (by kernel_rfl) ?main1
            case main1 =>
              refine wpParts_det (by rfl) (fun W hE hN => ?_) ?_
              · go_simp; refine ⟨Below.refl _ _, ?_⟩; rfl
              simp only [Act.put, List.setIfInBounds_toArray, List.set_cons_zero, List.set_cons_succ]
              refine wpParts_det (by rfl) (fun W hE hN => ?_) ?_
              · go_simp; refine ⟨Below.refl _ _, ?_⟩; rfl
              simp only [Act.put, List.setIfInBounds_toArray, List.set_cons_zero, List.set_cons_succ]
              refine wpParts_det (by rfl) (fun W hE hN => ?_) ?_
              · go_simp; refine ⟨Below.refl _ _, ?_⟩; rfl
              simp only [Act.put, List.setIfInBounds_toArray, List.set_cons_zero, List.set_cons_succ]
              refine wpParts_det (by rfl) (fun W hE hN => ?_) ?_
              · go_simp; refine ⟨Below.refl _ _, ?_⟩; rfl
              simp only [Act.put, List.setIfInBounds_toArray, List.set_cons_zero, List.set_cons_succ]
              refine wpParts_det (by rfl) (fun W hE hN => ?_) ?_
              · go_simp; refine ⟨Below.refl _ _, ?_⟩; rfl
              simp only [Act.put, List.setIfInBounds_toArray, List.set_cons_zero, List.set_cons_succ]
              refine wpParts_det (by rfl) (fun W hE hN => ?_) ?_
              · go_simp; refine ⟨Below.refl _ _, ?_⟩; rfl
              simp only [Act.put, List.setIfInBounds_toArray, List.set_cons_zero, List.set_cons_succ]
              refine wpParts_det (by rfl) (fun W hE hN => ?_) ?_
              · have hc := fun b o h => hE.cell (p := ⟨b, o, none⟩) h
                go_simp; refine ⟨Below.refl _ _, ?_⟩; rfl
              simp only [Act.put, List.setIfInBounds_toArray, List.set_cons_zero, List.set_cons_succ]
              refine wpParts_det (by rfl) (fun W hE hN => ?_) ?_
              · go_simp; refine ⟨Below.refl _ _, ?_⟩; rfl
              simp only [Act.put, List.setIfInBounds_toArray, List.set_cons_zero, List.set_cons_succ]
              refine wpParts_det (by rfl) (fun W hE hN => ?_) ?_
              · go_simp; refine ⟨Below.refl _ _, ?_⟩; rfl
              simp only [Act.put, List.setIfInBounds_toArray, List.set_cons_zero, List.set_cons_succ]
              refine wpParts_det (by rfl) (fun W hE hN => ?_) ?_
              · go_simp; refine ⟨Below.refl _ _, ?_⟩; rfl
              simp only [Act.put, List.setIfInBounds_toArray, List.set_cons_zero, List.set_cons_succ]
              refine wpParts_det (by rfl) (fun W hE hN => ?_) ?_
              · have hc := fun b o h => hE.cell (p := ⟨b, o, none⟩) h
                go_simp; refine ⟨Below.refl _ _, ?_⟩; rfl
              simp only [Act.put, List.setIfInBounds_toArray, List.set_cons_zero, List.set_cons_succ]
              refine wpParts_det (by rfl) (fun W hE hN => ?_) ?_
              · go_simp; refine ⟨Below.refl _ _, ?_⟩; refine (HCALL.out W).mono ?_; rintro e w' ⟨rfl, hb⟩; refine ⟨?_, hb⟩; rfl
              simp only [Act.put, List.setIfInBounds_toArray, List.set_cons_zero, List.set_cons_succ]
              refine wpParts_det (by rfl) (fun W hE hN => ?_) ?_
              · go_simp; refine ⟨Below.refl _ _, ?_⟩; rfl
              simp only [Act.put, List.setIfInBounds_toArray, List.set_cons_zero, List.set_cons_succ]
              refine wpParts_det (by rfl) (fun W hE hN => ?_) ?_
              · go_simp; refine ⟨Below.refl _ _, ?_⟩; rfl
              simp only [Act.put, List.setIfInBounds_toArray, List.set_cons_zero, List.set_cons_succ]
              refine wpParts_end fun W2 hE2 hG2 => ?_
              have hcW2 := fun b o h => hE2.cell (p := ⟨b, o, none⟩) h
              have hfW2 := fun b o h => hE2.frozen (p := ⟨b, o, none⟩) h
              have HP2 := Lib.hid (HPA.out.ext hE2)
              have HO2 := Lib.hid (HON.out.ext hE2)
              clear hE2 hcW2 hfW2 lg x0 x1 x2 x3 x4 x5 y0 y1 y2 y3 y4 y5
              go_wp2_with fail
              go_roundw
              case rel => first | exact ⟨h + 1, r, by go_num, rfl, by have := HIH.out; omega, HHJ.out, hjb, HA2.out, HB.out, HP2.out, HO2.out⟩ | ((repeat apply Exists.intro); exact ⟨⟨h + 1, r, by go_num, rfl, by have := HIH.out; omega, HHJ.out, hjb, HA2.out, HB.out, HP2.out, HO2.out⟩, rfl⟩)
              case measure => have := HIH.out; have := HHJ.out; simp [intOf]; omega
          | true =>
            rw [hk] at hdec
            have hdec2 : c < 0 := by simpa using hdec
            have HB2 := Lib.hid (show h = R0 ∨ ∀ x y, l[nn - 1 - h]? = some x → l[h]? = some y → kle x.key y.key from .inr fun x' y' hx' hy' => by
              rw [show nn - 1 - h = Q by have := HQ.out; have := HP1.out; omega, HY.out] at hx'; cases hx'
              rw [HX.out] at hy'; cases hy'
              exact kle_of_less hk)
            clear hk
            go_wp2_with fail
            refine' wp_region_seq [.inl _, .inl _, .inl _, .inl _, .inl _, .inl _, .inl _, .inl _, .inl _, .inl _, .inl _, .inl _, .inl _, .inl _] (by kernel_rfl) (by kernel_rfl) ?main2
            case main2 =>
              refine wpParts_det (by rfl) (fun W hE hN => ?_) ?_
              · go_simp; refine ⟨Below.refl _ _, ?_⟩; rfl
              simp only [Act.put, List.setIfInBounds_toArray, List.set_cons_zero, List.set_cons_succ]
              refine wpParts_det (by rfl) (fun W hE hN => ?_) ?_
              · go_simp; refine ⟨Below.refl _ _, ?_⟩; rfl
              simp only [Act.put, List.setIfInBounds_toArray, List.set_cons_zero, List.set_cons_succ]
              refine wpParts_det (by rfl) (fun W hE hN => ?_) ?_
              · go_simp; refine ⟨Below.refl _ _, ?_⟩; rfl
              simp only [Act.put, List.setIfInBounds_toArray, List.set_cons_zero, List.set_cons_succ]
              refine wpParts_det (by rfl) (fun W hE hN => ?_) ?_
              · go_simp; refine ⟨Below.refl _ _, ?_⟩; rfl
              simp only [Act.put, List.setIfInBounds_toArray, List.set_cons_zero, List.set_cons_succ]
              refine wpParts_det (by rfl) (fun W hE hN => ?_) ?_
              · go_simp; refine ⟨Below.refl _ _, ?_⟩; rfl
              simp only [Act.put, List.setIfInBounds_toArray, List.set_cons_zero, List.set_cons_succ]
              refine wpParts_det (by rfl) (fun W hE hN => ?_) ?_
              · go_simp; refine ⟨Below.refl _ _, ?_⟩; rfl
              simp only [Act.put, List.setIfInBounds_toArray, List.set_cons_zero, List.set_cons_succ]
              refine wpParts_det (by rfl) (fun W hE hN => ?_) ?_
              · have hc := fun b o h => hE.cell (p := ⟨b, o, none⟩) h
                go_simp; refine ⟨Below.refl _ _, ?_⟩; rfl
              simp only [Act.put, List.setIfInBounds_toArray, List.set_cons_zero, List.set_cons_succ]
              refine wpParts_det (by rfl) (fun W hE hN => ?_) ?_
              · go_simp; refine ⟨Below.refl _ _, ?_⟩; rfl
              simp only [Act.put, List.setIfInBounds_toArray, List.set_cons_zero, List.set_cons_succ]
              refine wpParts_det (by rfl) (fun W hE hN => ?_) ?_
              · go_simp; refine ⟨Below.refl _ _, ?_⟩; rfl
              simp only [Act.put, List.setIfInBounds_toArray, List.set_cons_zero, List.set_cons_succ]
              refine wpParts_det (by rfl) (fun W hE hN => ?_) ?_
              · go_simp; refine ⟨Below.refl _ _, ?_⟩; rfl
              simp only [Act.put, List.setIfInBounds_toArray, List.set_cons_zero, List.set_cons_succ]
              refine wpParts_det (by rfl) (fun W hE hN => ?_) ?_
              · have hc := fun b o h => hE.cell (p := ⟨b, o, none⟩) h
                go_simp; refine ⟨Below.refl _ _, ?_⟩; rfl
              simp only [Act.put, List.setIfInBounds_toArray, List.set_cons_zero, List.set_cons_succ]
              refine wpParts_det (by rfl) (fun W hE hN => ?_) ?_
              · go_simp; refine ⟨Below.refl _ _, ?_⟩; refine (HCALL.out W).mono ?_; rintro e w' ⟨rfl, hb⟩; refine ⟨?_, hb⟩; rfl
              simp only [Act.put, List.setIfInBounds_toArray, List.set_cons_zero, List.set_cons_succ]
              refine wpParts_det (by rfl) (fun W hE hN => ?_) ?_
              · go_simp; refine ⟨Below.refl _ _, ?_⟩; rfl
              simp only [Act.put, List.setIfInBounds_toArray, List.set_cons_zero, List.set_cons_succ]
              refine wpParts_det (by rfl) (fun W hE hN => ?_) ?_
              · go_simp; refine ⟨Below.refl _ _, ?_⟩; rfl
              simp only [Act.put, List.setIfInBounds_toArray, List.set_cons_zero, List.set_cons_succ]
              refine wpParts_end fun W2 hE2 hG2 => ?_
              have hcW2 := fun b o h => hE2.cell (p := ⟨b, o, none⟩) h
              have hfW2 := fun b o h => hE2.frozen (p := ⟨b, o, none⟩) h
              have HP2 := Lib.hid (HPA.out.ext hE2)
              have HO2 := Lib.hid (HON.out.ext hE2)
              clear hE2 hcW2 hfW2 lg x0 x1 x2 x3 x4 x5 y0 y1 y2 y3 y4 y5
              go_wp2_with fail
              go_roundw
              case rel => first | exact ⟨s, h, rfl, rfl, hai, HIH.out, by have := HHJ.out; omega, HA.out, HB2.out, HP2.out, HO2.out⟩ | ((repeat apply Exists.intro); exact ⟨⟨s, h, rfl, rfl, hai, HIH.out, by have := HHJ.out; omega, HA.out, HB2.out, HP2.out, HO2.out⟩, rfl⟩)
              case measure => have := HIH.out; have := HHJ.out; simp [intOf]; omega
        · have g1 : ¬ (s : Int) < (r : Int) := by omega
          obtain rfl : s = r := by omega
          obtain ⟨E, hE⟩ : ∃ E, E + s = nn := ⟨nn - s, by have := HS0.out; have := HNN.out; omega⟩
          have v6 : IntKind.i64.wrap ((nn : Int) - (s : Int)) = (E : Int) := by have := HNN.out; rw [IntWalk.i64_in _ (by omega)]; omega
          have hbd : a ≤ s ∧ s ≤ m ∧ m ≤ E ∧ E ≤ b ∧ s ≤ mid ∧ mid ≤ E := by have := HS0.out; have := HNN.out; omega
          have hEE : s + E = mid + m := by have := HNN.out; omega
          have HRU := Lib.hid (show ∀ c : List PairE, (∀ k, c[k]? = rotGet l s m E k) → Runs c a s mid E b from fun c hc => by
            refine runs_of H1.out H2.out (by have := HL.out; omega) hbd.1 hbd.2.1 hbd.2.2.1 hbd.2.2.2.1 hEE ?_ ?_ hc
            · rcases HA.out with h | h
              · rcases HS0.out.2.2.2.2.2.1 with h' | h'
                · exact .inl (h.trans h')
                · exact .inr (.inl (by omega))
              · refine .inr (.inr ?_)
                rw [show nn - s = E by omega] at h
                exact h
            · rcases HB.out with h | h
              · rcases HS0.out.2.2.2.2.2.2 with h' | h'
                · exact .inl (h.trans h')
                · exact .inr (.inl (by omega))
              · refine .inr (.inr ?_)
                rw [show nn - 1 - s = E - 1 by omega] at h
                exact h)
          clear hE hEE hlt
          have HBD := Lib.hid hbd
          have HV6 := Lib.hid v6
          have hcl := HL.out
          obtain ⟨B1, hB1⟩ : ∃ B1, (decide (s < m) && decide (m < E)) = B1 := ⟨_, rfl⟩
          have HB1 := Lib.hid hB1
          clear hB1 hbd
          go_upto_region 39 with fail
          go_cut [185] from 149 to 185 (fun s185 wc => s185 = .bool B1 ∧ wr = wc)
          case first =>
            by_cases p1 : s < m
            · have d1 : decide ((s : Int) < (m : Int)) = true := decide_eq_true (by omega)
              have d1' : (s : Int) < (m : Int) := by omega
              by_cases p2 : m < E
              · have d2 : decide ((m : Int) < (E : Int)) = true := decide_eq_true (by omega)
                have d2' : (m : Int) < (E : Int) := by omega
                have HBB := Lib.hid (show true = B1 from by rw [← HB1.out, decide_eq_true p1, decide_eq_true p2]; rfl)
                go_wp2_with fail
                go_meet
                case rel => first | exact ⟨by rw [← HBB.out], rfl⟩ | exact ⟨⟨by rw [← HBB.out], rfl⟩, rfl⟩ | ((repeat apply Exists.intro); exact ⟨⟨by rw [← HBB.out], rfl⟩, rfl⟩)
              · have d2 : decide ((m : Int) < (E : Int)) = false := decide_eq_false (by omega)
                have d2' : ¬ (m : Int) < (E : Int) := by omega
                have HBB := Lib.hid (show false = B1 from by rw [← HB1.out, decide_eq_false p2, Bool.and_false])
                go_wp2_with fail
                go_meet
                case rel => first | exact ⟨by rw [← HBB.out], rfl⟩ | exact ⟨⟨by rw [← HBB.out], rfl⟩, rfl⟩ | ((repeat apply Exists.intro); exact ⟨⟨by rw [← HBB.out], rfl⟩, rfl⟩)
            · have d1 : decide ((s : Int) < (m : Int)) = false := decide_eq_false (by omega)
              have d1' : ¬ (s : Int) < (m : Int) := by omega
              have HBB := Lib.hid (show false = B1 from by rw [← HB1.out, decide_eq_false p1, Bool.false_and])
              --Z1
              go_wp2_with fail
              --Z2
              go_meet
              --Z3
              case rel => first | exact ⟨by rw [← HBB.out], rfl⟩ | exact ⟨⟨by rw [← HBB.out], rfl⟩, rfl⟩ | ((repeat apply Exists.intro); exact ⟨⟨by rw [← HBB.out], rfl⟩, rfl⟩)
          case rest =>
            obtain ⟨rfl, rfl⟩ := hcut
            --C1
            go_upto_if 185 with fail
            go_cut [] from 186 to 191 (fun wc => ∃ c, SegP l c a b ∧ Runs c a s mid E b ∧ PairsAt wc g c 56 ∧ OnlyS (· = g) w wc)
            case first =>
              cases B1 with
              | true =>
                have hpp : s < m ∧ m < E := by have h := HB1.out; simpa using h
                have HC := Lib.hid (Tryd_rotate g n cap s m E l wr hcl hpp.1 hpp.2 (by have := HBD.out; omega) hnc hc HPA.out)
                clear hcl hpp
                go_wp2_with fail
                refine HC.out.mono ?_; rintro e w2 ⟨rfl, cc, ⟨hs2, hg2⟩, hp2, ho2⟩
                have HX := Lib.hid (show SegP l cc a b ∧ Runs cc a s mid E b ∧ PairsAt w2 g cc 56 ∧ OnlyS (· = g) w w2 from ⟨hs2.wide (a := a) (b := b) HBD.out.1 HBD.out.2.2.2.1, HRU.out cc hg2, hp2, onlyS_trans HON.out ho2⟩)
                clear hs2 hg2 hp2 ho2 HC
                go_wp2_with fail
                go_meet
                case rel => first | exact ⟨cc, HX.out⟩ | exact ⟨⟨cc, HX.out⟩, rfl⟩ | ((repeat apply Exists.intro); exact ⟨⟨cc, HX.out⟩, rfl⟩)
              | false =>
                have HX := Lib.hid (show SegP l l a b ∧ Runs l a s mid E b ∧ PairsAt wr g l 56 ∧ OnlyS (· = g) w wr from ⟨SegP.refl l a b, HRU.out l (by
                  have h := HB1.out
                  by_cases p1 : s < m
                  · exact rot_id (.inr (by have h2 : ¬ m < E := by simpa [p1] using h
                                           have := HBD.out; omega))
                  · exact rot_id (.inl (by have := HBD.out; omega))), HPA.out, HON.out⟩)
                go_wp2_with fail
                go_meet
                case rel => first | exact ⟨l, HX.out⟩ | exact ⟨⟨l, HX.out⟩, rfl⟩ | ((repeat apply Exists.intro); exact ⟨⟨l, HX.out⟩, rfl⟩)
            case rest =>
              obtain ⟨c, hcseg, hcrun, hcp, hco⟩ := hcut
              have HSX := Lib.hid hcseg
              have HRX := Lib.hid hcrun
              have HPX := Lib.hid hcp
              have HOX := Lib.hid hco
              clear hcseg hcrun hcp hco hcl HPA HON HRU HB1
              have hclx := HSX.out.len.trans HL.out
              obtain ⟨B2, hB2⟩ : ∃ B2, (decide (a < s) && decide (s < mid)) = B2 := ⟨_, rfl⟩
              have HB2 := Lib.hid hB2
              clear hB2
              go_upto_region 41 with fail
              go_cut [199] from 192 to 199 (fun s199 wd => s199 = .bool B2 ∧ wc = wd)
              case first =>
                by_cases p1 : a < s
                · have d1 : decide ((a : Int) < (s : Int)) = true := decide_eq_true (by omega)
                  have d1' : (a : Int) < (s : Int) := by omega
                  by_cases p2 : s < mid
                  · have d2 : decide ((s : Int) < (mid : Int)) = true := decide_eq_true (by omega)
                    have d2' : (s : Int) < (mid : Int) := by omega
                    have HBB := Lib.hid (show true = B2 from by rw [← HB2.out, decide_eq_true p1, decide_eq_true p2]; rfl)
                    go_wp2_with fail
                    go_meet
                    case rel => first | exact ⟨by rw [← HBB.out], rfl⟩ | exact ⟨⟨by rw [← HBB.out], rfl⟩, rfl⟩ | ((repeat apply Exists.intro); exact ⟨⟨by rw [← HBB.out], rfl⟩, rfl⟩)
                  · have d2 : decide ((s : Int) < (mid : Int)) = false := decide_eq_false (by omega)
                    have d2' : ¬ (s : Int) < (mid : Int) := by omega
                    have HBB := Lib.hid (show false = B2 from by rw [← HB2.out, decide_eq_false p2, Bool.and_false])
                    go_wp2_with fail
                    go_meet
                    case rel => first | exact ⟨by rw [← HBB.out], rfl⟩ | exact ⟨⟨by rw [← HBB.out], rfl⟩, rfl⟩ | ((repeat apply Exists.intro); exact ⟨⟨by rw [← HBB.out], rfl⟩, rfl⟩)
                · have d1 : decide ((a : Int) < (s : Int)) = false := decide_eq_false (by omega)
                  have d1' : ¬ (a : Int) < (s : Int) := by omega
                  have HBB := Lib.hid (show false = B2 from by rw [← HB2.out, decide_eq_false p1, Bool.false_and])
                  go_wp2_with fail
                  go_meet
                  case rel => first | exact ⟨by rw [← HBB.out], rfl⟩ | exact ⟨⟨by rw [← HBB.out], rfl⟩, rfl⟩ | ((repeat apply Exists.intro); exact ⟨⟨by rw [← HBB.out], rfl⟩, rfl⟩)
              case rest =>
                obtain ⟨rfl, rfl⟩ := hcut
                --C2
                go_upto_if 199 with fail
                go_cut [] from 200 to 205 (fun wd => ∃ c3, SegP c c3 a mid ∧ SortedS c3 a mid ∧ PairsAt wd g c3 56 ∧ OnlyS (· = g) w wd)
                case first =>
                  cases B2 with
                  | true =>
                    have hpp : a < s ∧ s < mid := by have h := HB2.out; simpa using h
                    have HC2 := Lib.hid (IH.out g n cap a s mid c _ (by omega) hclx hpp.1 hpp.2 (by omega) hnc hc HPX.out HRX.out.r1 HRX.out.r2)
                    clear hclx hpp
                    go_wp2_with fail
                    refine HC2.out.mono ?_; rintro e w3 ⟨rfl, c3, ⟨hs3, hg3⟩, hp3, ho3⟩
                    have HX := Lib.hid (show SegP c c3 a mid ∧ SortedS c3 a mid ∧ PairsAt w3 g c3 56 ∧ OnlyS (· = g) w w3 from ⟨hs3, hg3, hp3, onlyS_trans HOX.out ho3⟩)
                    clear hs3 hg3 hp3 ho3 HC2
                    go_wp2_with fail
                    go_meet
                    case rel => first | exact ⟨c3, HX.out⟩ | exact ⟨⟨c3, HX.out⟩, rfl⟩ | ((repeat apply Exists.intro); exact ⟨⟨c3, HX.out⟩, rfl⟩)
                  | false =>
                    have HX := Lib.hid (show SegP c c a mid ∧ SortedS c a mid ∧ PairsAt _ g c 56 ∧ OnlyS (· = g) w _ from ⟨SegP.refl c a mid, SortedS.join (by
                      have h := HB2.out
                      by_cases p1 : a < s
                      · exact .inr (by have h2 : ¬ s < mid := by simpa [p1] using h
                                       have := HBD.out; omega)
                      · exact .inl (by have := HBD.out; omega)) HRX.out.r1 HRX.out.r2, HPX.out, HOX.out⟩)
                    go_wp2_with fail
                    go_meet
                    case rel => first | exact ⟨c, HX.out⟩ | exact ⟨⟨c, HX.out⟩, rfl⟩ | ((repeat apply Exists.intro); exact ⟨⟨c, HX.out⟩, rfl⟩)
                case rest =>
                  obtain ⟨c3, hs3, hg3, hp3, ho3⟩ := hcut
                  have HS3 := Lib.hid hs3
                  have HG3 := Lib.hid hg3
                  have HP3 := Lib.hid hp3
                  have HO3 := Lib.hid ho3
                  clear hs3 hg3 hp3 ho3 hclx HPX HOX HB2
                  have hcl3 := HS3.out.len.trans (HSX.out.len.trans HL.out)
                  by_cases t1 : mid < E
                  · have k1 : decide ((mid : Int) < (E : Int)) = true := decide_eq_true (by omega)
                    have k1' : (mid : Int) < (E : Int) := by omega
                    by_cases t2 : E < b
                    · have k2 : decide ((E : Int) < (b : Int)) = true := decide_eq_true (by omega)
                      have k2' : (E : Int) < (b : Int) := by omega
                      have HC4 := Lib.hid (IH.out g n cap mid E b c3 _ (by omega) hcl3 t1 t2 hbn hnc hc HP3.out (HS3.out.sorted (Nat.le_refl _) HRX.out.r3) (HS3.out.sorted (by have := HBD.out; omega) HRX.out.r4))
                      clear hcl3
                      go_wp2_with fail
                      refine HC4.out.mono ?_; rintro e w5 ⟨rfl, c5, ⟨hs5, hg5⟩, hp5, ho5⟩
                      have HE := Lib.hid (show SegP l c5 a b ∧ SortedS c5 a b from ⟨(HSX.out.trans HS3.out (Nat.le_refl _) (by omega)).trans hs5 (by omega) (Nat.le_refl _), halves HRX.out.cross HS3.out HG3.out hs5 hg5⟩)
                      have HP5 := Lib.hid hp5
                      have HO5 := Lib.hid (onlyS_trans HO3.out ho5)
                      clear hs5 hg5 hp5 ho5 HC4
                      go_wp2
                      go_end0
                      exact ⟨rfl, c5, HE.out, HP5.out, HO5.out⟩
                    · have k2 : decide ((E : Int) < (b : Int)) = false := decide_eq_false (by omega)
                      have k2' : ¬ (E : Int) < (b : Int) := by omega
                      have HE := Lib.hid (show SegP l c3 a b ∧ SortedS c3 a b from ⟨HSX.out.trans HS3.out (Nat.le_refl _) (by omega), halves HRX.out.cross HS3.out HG3.out (SegP.refl _ _ _) (SortedS.join (.inr (by have := HBD.out; omega)) (HS3.out.sorted (Nat.le_refl _) HRX.out.r3) (HS3.out.sorted (by have := HBD.out; omega) HRX.out.r4))⟩)
                      go_wp2
                      go_end0
                      exact ⟨rfl, _, HE.out, HP3.out, HO3.out⟩
                  · have k1 : decide ((mid : Int) < (E : Int)) = false := decide_eq_false (by omega)
                    have k1' : ¬ (mid : Int) < (E : Int) := by omega
                    have HE := Lib.hid (show SegP l c3 a b ∧ SortedS c3 a b from ⟨HSX.out.trans HS3.out (Nat.le_refl _) (by omega), halves HRX.out.cross HS3.out HG3.out (SegP.refl _ _ _) (SortedS.join (.inl (by have := HBD.out; omega)) (HS3.out.sorted (Nat.le_refl _) HRX.out.r3) (HS3.out.sorted (by have := HBD.out; omega) HRX.out.r4))⟩)
                    go_wp2
                    go_end0
                    exact ⟨rfl, _, HE.out, HP3.out, HO3.out⟩
end Go.Proofs.YtmcmknndhppljaaDoor
