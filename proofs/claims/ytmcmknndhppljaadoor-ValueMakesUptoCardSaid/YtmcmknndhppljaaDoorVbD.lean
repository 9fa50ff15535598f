/-
  Comparing pairs by their keys; the insertion sort, walked.
  The stable sort of pairs, walked.
  A region that draws its order, one of whose operations writes into memory that was there (a call that grows a row); the facts of the others hold in whatever order.
  Copies of slices of pairs and of values, walked; appending to an own row as an operation of a drawn region.
-/
import Derived.Test.YtmcmknndhppljaaDoorVbC
import Derived.Test.YtmcmknndhppljaaDoorVbB
import Derived.Test.YtmcmknndhppljaaDoorVbA
import Derived.LoopN
import Derived.WalkLawsBesides
import Derived.Laws.EntriesVeiled
import Derived.WalkSpells
namespace Go.Dav
set_option linter.unusedVariables false
set_option linter.unusedSimpArgs false
open Go Go.RowKit
def cmpOf (a b : ByteArray) : Int := if kless a b = true then -1 else if kless b a = true then 1 else 0
theorem cmp_neg (a b : ByteArray) : decide (cmpOf a b < 0) = kless a b := by
  unfold cmpOf
  cases kless a b with
  | true => simp
  | false => cases kless b a <;> simp
end Go.Dav
namespace Go.Proofs.YtmcmknndhppljaaDoor
set_option linter.unusedVariables false
set_option linter.unusedSimpArgs false
open Go.RowKit Go.Dav
attribute [local go_sem] Gives ite_val ite_val_true

theorem Tryd_isNaN (a : ByteArray) (w : World) : Calls Tryd.prog 77 #[.string a] w fun e w' => e = .returned (.bool false) ∧ Below w.heap.size w w' := by
  have g : (a.toList != a.toList) = false := by simp
  go_enter Tryd.func77, Tryd.ntmps77
  go_wp2
  go_ret
  exact ⟨rfl, (by repeat (first | (with_reducible exact Below.refl _ _) | (with_reducible exact Below.refl _ _) | (with_reducible refine Below.setCell ?_ (by first | omega | (simp; done) | (simp; omega)) _) | (with_reducible refine Below.alloc ?_ (by first | omega | (simp; done) | (simp; omega)) _) | (with_reducible refine Below.drew ?_) | (with_reducible refine below_drewN ?_ _)))⟩

set_option maxHeartbeats 1000000 in
theorem Tryd_cmpStr (a b : ByteArray) (w : World) : Calls Tryd.prog 57 #[.string a, .string b] w fun e w' => e = .returned (.int .i64 (cmpOf a b)) ∧ Below w.heap.size w w' := by
  have h1 : cmpOf a b = if kless a b = true then -1 else if kless b a = true then 1 else 0 := rfl
  obtain ⟨r, hr⟩ : ∃ r, cmpOf a b = r := ⟨_, rfl⟩
  rw [hr] at h1 ⊢
  have HR := Lib.hid h1
  clear h1 hr
  cases hab : Op.bytesLess a.toList b.toList with
  | true =>
    have e : r = -1 := by rw [HR.out, if_pos (show kless a b = true from hab)]
    subst e
    clear HR
    go_enter Tryd.func57, Tryd.ntmps57
    go_wp2_with fail
    refine (Tryd_isNaN a _).mono ?_; rintro e w1 ⟨rfl, hb1⟩
    go_wp2_with fail
    refine (Tryd_isNaN b _).mono ?_; rintro e w2 ⟨rfl, hb2⟩
    go_wp2
    go_ret
    exact ⟨rfl, by have s1 := hb1.size; exact (by repeat (first | (with_reducible exact Below.refl _ _) | (with_reducible exact Below.refl _ _) | (with_reducible refine Below.setCell ?_ (by first | omega | (simp; done) | (simp; omega)) _) | (with_reducible refine Below.alloc ?_ (by first | omega | (simp; done) | (simp; omega)) _) | (with_reducible refine Below.drew ?_) | (with_reducible refine below_drewN ?_ _) | (with_reducible refine Below.trans ?_ (hb2.mono (by first | omega | (simp; done) | (simp; omega)))) | (with_reducible refine Below.trans ?_ (hb1.mono (by first | omega | (simp; done) | (simp; omega))))))⟩
  | false =>
    have hn : ¬ kless a b = true := by unfold kless; rw [hab]; decide
    cases heq : (a.toList == b.toList) with
    | true =>
      have e : r = 0 := by
        rw [HR.out, if_neg hn, if_neg]
        unfold kless
        have h : a.toList = b.toList := by simpa using heq
        rw [← h] at hab ⊢
        rw [hab]; decide
      subst e
      clear HR
      go_enter Tryd.func57, Tryd.ntmps57
      go_wp2_with fail
      refine (Tryd_isNaN a _).mono ?_; rintro e w1 ⟨rfl, hb1⟩
      go_wp2_with fail
      refine (Tryd_isNaN b _).mono ?_; rintro e w2 ⟨rfl, hb2⟩
      go_wp2
      go_ret
      exact ⟨rfl, by have s1 := hb1.size; exact (by repeat (first | (with_reducible exact Below.refl _ _) | (with_reducible exact Below.refl _ _) | (with_reducible refine Below.setCell ?_ (by first | omega | (simp; done) | (simp; omega)) _) | (with_reducible refine Below.alloc ?_ (by first | omega | (simp; done) | (simp; omega)) _) | (with_reducible refine Below.drew ?_) | (with_reducible refine below_drewN ?_ _) | (with_reducible refine Below.trans ?_ (hb2.mono (by first | omega | (simp; done) | (simp; omega)))) | (with_reducible refine Below.trans ?_ (hb1.mono (by first | omega | (simp; done) | (simp; omega))))))⟩
    | false =>
      have e : r = 1 := by
        rw [HR.out, if_neg hn, if_pos]
        refine less_of_not fun h => ?_
        have := kle_antisymm h (show kle b a from by unfold kle kless; exact hab)
        rw [this] at heq
        simp at heq
      subst e
      clear HR
      go_enter Tryd.func57, Tryd.ntmps57
      go_wp2_with fail
      refine (Tryd_isNaN a _).mono ?_; rintro e w1 ⟨rfl, hb1⟩
      go_wp2_with fail
      refine (Tryd_isNaN b _).mono ?_; rintro e w2 ⟨rfl, hb2⟩
      go_wp2
      go_ret
      exact ⟨rfl, by have s1 := hb1.size; exact (by repeat (first | (with_reducible exact Below.refl _ _) | (with_reducible exact Below.refl _ _) | (with_reducible refine Below.setCell ?_ (by first | omega | (simp; done) | (simp; omega)) _) | (with_reducible refine Below.alloc ?_ (by first | omega | (simp; done) | (simp; omega)) _) | (with_reducible refine Below.drew ?_) | (with_reducible refine below_drewN ?_ _) | (with_reducible refine Below.trans ?_ (hb2.mono (by first | omega | (simp; done) | (simp; omega)))) | (with_reducible refine Below.trans ?_ (hb1.mono (by first | omega | (simp; done) | (simp; omega))))))⟩

theorem Tryd_cmpPair (x y : PairE) (w : World) : Calls Tryd.prog 56 #[.agg #[.string x.key, .int .i64 x.k, .int .i64 x.n, .string x.s, .slice x.a1 x.l1 x.c1, .slice x.a2 x.l2 x.c2], .agg #[.string y.key, .int .i64 y.k, .int .i64 y.n, .string y.s, .slice y.a1 y.l1 y.c1, .slice y.a2 y.l2 y.c2]] w fun e w' => e = .returned (.int .i64 (cmpOf x.key y.key)) ∧ Below w.heap.size w w' := by
  have HC := Lib.hid (fun W => Tryd_cmpStr x.key y.key W)
  obtain ⟨r, hr⟩ : ∃ r, cmpOf x.key y.key = r := ⟨_, rfl⟩
  rw [hr] at HC ⊢
  clear hr
  go_enter Tryd.func56, Tryd.ntmps56
  go_wp2_with fail
  refine (HC.out _).mono ?_; rintro e w1 ⟨rfl, hb1⟩
  go_wp2
  go_ret
  exact ⟨rfl, by have s1 := hb1.size; exact (by repeat (first | (with_reducible exact Below.refl _ _) | (with_reducible exact Below.refl _ _) | (with_reducible refine Below.setCell ?_ (by first | omega | (simp; done) | (simp; omega)) _) | (with_reducible refine Below.alloc ?_ (by first | omega | (simp; done) | (simp; omega)) _) | (with_reducible refine Below.drew ?_) | (with_reducible refine below_drewN ?_ _) | (with_reducible refine Below.trans ?_ (hb1.mono (by first | omega | (simp; done) | (simp; omega))))))⟩
theorem Tryd_enter56 (args : Array Value) (W : World) : (callFunc 56 args).run Tryd.prog W = .ok (Next.enter 56 args) W := by kernel_rfl

/-- What a part of the sort leaves. -/
def TrydSorts (W : World) (g : Nat) (l : List PairE) (R : List PairE → Prop) (e : Ending) (w' : World) : Prop := e = .returned (.tuple #[]) ∧ ∃ l', R l' ∧ PairsAt w' g l' 56 ∧ OnlyS (· = g) W w'

set_option maxRecDepth 8000 in
set_option maxHeartbeats 8000000 in
theorem Tryd_insertion (g n cap a b : Nat) (l : List PairE) (w : World) (hl : l.length = n) (hab : a ≤ b) (hbn : b ≤ n) (hnc : n ≤ cap) (hc : n ≤ 1073741824) (hp : PairsAt w g l 56) :
    Calls Tryd.prog 94 #[.slice (some ⟨g, 0, none⟩) n cap, .int .i64 (a : Int), .int .i64 (b : Int), .func (.func 56) #[] #[]] w (TrydSorts w g l fun l' => SegP l l' a b ∧ SortedS l' a b) := by
  have HL := Lib.hid hl
  have HP := Lib.hid hp
  have hen := Tryd_enter56
  have u0 : IntKind.i64.wrap ((a : Int) + 1) = ((a + 1 : Nat) : Int) := by rw [IntWalk.i64_in _ (by omega)]; omega
  clear hl hp
  go_enter Tryd.func94, Tryd.ntmps94
  go_wp2_with fail
  go_loopw [8] (fun ix wr => ∃ (i : Nat) (m : List PairE), a < i ∧ i ≤ max (a + 1) b ∧ ix = .int .i64 (i : Int) ∧ SegP l m a b ∧ SortedS m a i ∧ PairsAt wr g m 56 ∧ OnlyS (· = g) w wr) (fun ix _ => b - (intOf ix).toNat)
  case atStart => exact ⟨a + 1, l, by omega, by omega, rfl, SegP.refl _ _ _, fun i j x y h1 h2 h3 hx hy => by
    obtain rfl : i = j := by omega
    rw [hx] at hy; cases hy; exact kle_refl _, HP.out, OnlyS.refl _ _⟩
  case round =>
    obtain ⟨i, m, hai, hib, rfl, hseg, hsor, hpa, hon⟩ := hrel
    have HSEG := Lib.hid hseg
    have HSOR := Lib.hid hsor
    have HPA := Lib.hid hpa
    have HON := Lib.hid hon
    clear hseg hsor hpa hon
    by_cases hlt : i < b
    · have g1 : (i : Int) < (b : Int) := by omega
      have hmm : m.length = n := HSEG.out.len.trans HL.out
      go_wp2_with fail
      go_loopw [9] (fun jx wv => ∃ (j : Nat) (m2 : List PairE), a ≤ j ∧ j ≤ i ∧ jx = .int .i64 (j : Int) ∧ SegP l m2 a b ∧ InsAt m2 a i j ∧ PairsAt wv g m2 56 ∧ OnlyS (· = g) w wv) (fun jx _ => (intOf jx).toNat)
      case atStart => exact ⟨i, m, by omega, by omega, rfl, HSEG.out, InsAt.start HSOR.out, HPA.out, HON.out⟩
      case round =>
        obtain ⟨j, m2, haj, hji, rfl, hseg2, hins, hpa2, hon2⟩ := hrel
        have HSEG2 := Lib.hid hseg2
        have HINS := Lib.hid hins
        have HPA2 := Lib.hid hpa2
        have HON2 := Lib.hid hon2
        have hm2 : m2.length = n := hseg2.len.trans HL.out
        have lg := hpa2.lt
        have mk := hpa2.marks
        clear hseg2 hins hpa2 hon2
        have u2 : IntKind.i64.wrap ((i : Int) + 1) = ((i + 1 : Nat) : Int) := by rw [IntWalk.i64_in _ (by omega)]; omega
        by_cases hja : j = a
        · have gd : decide ((a : Int) < (j : Int)) = false := decide_eq_false (by omega)
          have gd2 : ¬ (a : Int) < (j : Int) := by omega
          have HSO := Lib.hid (HINS.out.done haj hji (.inl hja))
          go_wp2_with fail
          refine' wp_region_seq [.inl _, .inl _, .inl _, .inl _, .inl undef, .inl undef, .inl undef, .inl undef, .inl undef, .inl undef, .inl undef, .inl undef, .inl undef, .inl undef, .inl undef, .inl undef, .inl _] (by kernel_rfl) (by kernel_rfl) ?main1
          case main1 =>
            refine wpParts_det (by rfl) (fun W hE hN => ?_) ?_
            · go_simp; refine ⟨Below.refl _ _, ?_⟩; rfl
            simp only [Act.put, List.setIfInBounds_toArray, List.set_cons_zero, List.set_cons_succ]
            refine wpParts_det (by rfl) (fun W hE hN => ?_) ?_
            · go_simp; refine ⟨Below.refl _ _, ?_⟩; rfl
            simp only [Act.put, List.setIfInBounds_toArray, List.set_cons_zero, List.set_cons_succ]
            refine wpParts_det (by rfl) (fun W hE hN => ?_) ?_
            · go_simp; refine ⟨Below.refl _ _, ?_⟩; rfl
            simp only [Act.put, List.setIfInBounds_toArray, List.set_cons_zero, List.set_cons_succ]
            refine wpParts_det (by rfl) (fun W hE hN => ?_) ?_
            · go_simp; refine ⟨Below.refl _ _, ?_⟩; rfl
            simp only [Act.put, List.setIfInBounds_toArray, List.set_cons_zero, List.set_cons_succ]
            refine wpParts_skip ?_ ?_
            · rfl
            simp only [Act.put, List.setIfInBounds_toArray, List.set_cons_zero, List.set_cons_succ]
            refine wpParts_skip ?_ ?_
            · rfl
            simp only [Act.put, List.setIfInBounds_toArray, List.set_cons_zero, List.set_cons_succ]
            refine wpParts_skip ?_ ?_
            · rfl
            simp only [Act.put, List.setIfInBounds_toArray, List.set_cons_zero, List.set_cons_succ]
            refine wpParts_skip ?_ ?_
            · rfl
            simp only [Act.put, List.setIfInBounds_toArray, List.set_cons_zero, List.set_cons_succ]
            refine wpParts_skip ?_ ?_
            · rfl
            simp only [Act.put, List.setIfInBounds_toArray, List.set_cons_zero, List.set_cons_succ]
            refine wpParts_skip ?_ ?_
            · rfl
            simp only [Act.put, List.setIfInBounds_toArray, List.set_cons_zero, List.set_cons_succ]
            refine wpParts_skip ?_ ?_
            · rfl
            simp only [Act.put, List.setIfInBounds_toArray, List.set_cons_zero, List.set_cons_succ]
            refine wpParts_skip ?_ ?_
            · rfl
            simp only [Act.put, List.setIfInBounds_toArray, List.set_cons_zero, List.set_cons_succ]
            refine wpParts_skip ?_ ?_
            · rfl
            simp only [Act.put, List.setIfInBounds_toArray, List.set_cons_zero, List.set_cons_succ]
            refine wpParts_skip ?_ ?_
            · rfl
            simp only [Act.put, List.setIfInBounds_toArray, List.set_cons_zero, List.set_cons_succ]
            refine wpParts_skip ?_ ?_
            · rfl
            simp only [Act.put, List.setIfInBounds_toArray, List.set_cons_zero, List.set_cons_succ]
            refine wpParts_skip ?_ ?_
            · rfl
            simp only [Act.put, List.setIfInBounds_toArray, List.set_cons_zero, List.set_cons_succ]
            refine wpParts_det (by rfl) (fun W hE hN => ?_) ?_
            · go_simp; refine ⟨Below.refl _ _, ?_⟩; rfl
            simp only [Act.put, List.setIfInBounds_toArray, List.set_cons_zero, List.set_cons_succ]
            refine wpParts_end fun W2 hE2 hG2 => ?_
            have hcW2 := fun b o h => hE2.cell (p := ⟨b, o, none⟩) h
            have hfW2 := fun b o h => hE2.frozen (p := ⟨b, o, none⟩) h
            have HP2 := Lib.hid (HPA2.out.ext hE2)
            have HO2 := Lib.hid (HON2.out.ext hE2)
            clear hE2 hcW2 hfW2 mk lg
            go_wp2_with fail
            go_roundw
            case rel => exact ⟨i + 1, m2, by omega, by omega, by go_num, HSEG2.out, HSO.out, HP2.out, HO2.out⟩
            case measure => simp [intOf]; omega
        · obtain ⟨q, hq⟩ : ∃ q, q + 1 = j := ⟨j - 1, by omega⟩
          have gd : decide ((a : Int) < (j : Int)) = true := decide_eq_true (by omega)
          have gd2 : (a : Int) < (j : Int) := by omega
          have u3 : IntKind.i64.wrap ((j : Int) - 1) = (q : Int) := by rw [IntWalk.i64_in _ (by omega)]; omega
          obtain ⟨x, hx⟩ : ∃ x, m2[j]? = some x := ⟨_, List.getElem?_eq_getElem (by omega)⟩
          obtain ⟨y, hy⟩ : ∃ y, m2[q]? = some y := ⟨_, List.getElem?_eq_getElem (by omega)⟩
          obtain ⟨x0, x1, x2, x3, x4, x5⟩ := HPA2.out.get hx
          obtain ⟨y0, y1, y2, y3, y4, y5⟩ := HPA2.out.get hy
          have gj : (j : Int) < (n : Int) := by omega
          have gq : (q : Int) < (n : Int) := by omega
          have HX := Lib.hid hx
          have HY := Lib.hid hy
          have HQ := Lib.hid hq
          have hdec := cmp_neg x.key y.key
          have hcall := fun W => Tryd_cmpPair x y W
          obtain ⟨c, hc⟩ : ∃ c, cmpOf x.key y.key = c := ⟨_, rfl⟩
          rw [hc] at hdec hcall
          have HCALL := Lib.hid hcall
          clear hx hy hq hcall hc
          cases hk : kless x.key y.key with
          | false =>
            rw [hk] at hdec
            have hdec2 : ¬ c < 0 := by simpa using hdec
            have HSO := Lib.hid (HINS.out.done haj hji (.inr fun x' y' hx' hy' => by
              rw [HX.out] at hx'; cases hx'
              rw [show j - 1 = q by have := HQ.out; omega, HY.out] at hy'; cases hy'
              exact hk))
            clear hk
            go_wp2_with fail
            refine' wp_region_seq [.inl _, .inl _, .inl _, .inl _, .inl _, .inl _, .inl _, .inl _, .inl _, .inl _, .inl _, .inl _, .inl _, .inl _, .inl _, .inl _, .inl _] (by kernel_rfl) (by kernel_rfl) ?main2
            case main2 =>
              refine wpParts_det (by rfl) (fun W hE hN => ?_) ?_
              · go_simp; refine ⟨Below.refl _ _, ?_⟩; rfl
              simp only [Act.put, List.setIfInBounds_toArray, List.set_cons_zero, List.set_cons_succ]
              refine wpParts_det (by rfl) (fun W hE hN => ?_) ?_
              · go_simp; refine ⟨Below.refl _ _, ?_⟩; rfl
              simp only [Act.put, List.setIfInBounds_toArray, List.set_cons_zero, List.set_cons_succ]
              refine wpParts_det (by rfl) (fun W hE hN => ?_) ?_
              · go_simp; refine ⟨Below.refl _ _, ?_⟩; rfl
              simp only [Act.put, List.setIfInBounds_toArray, List.set_cons_zero, List.set_cons_succ]
              refine wpParts_det (by rfl) (fun W hE hN => ?_) ?_
              · go_simp; refine ⟨Below.refl _ _, ?_⟩; rfl
              simp only [Act.put, List.setIfInBounds_toArray, List.set_cons_zero, List.set_cons_succ]
              refine wpParts_det (by rfl) (fun W hE hN => ?_) ?_
              · go_simp; refine ⟨Below.refl _ _, ?_⟩; rfl
              simp only [Act.put, List.setIfInBounds_toArray, List.set_cons_zero, List.set_cons_succ]
              refine wpParts_det (by rfl) (fun W hE hN => ?_) ?_
              · go_simp; refine ⟨Below.refl _ _, ?_⟩; rfl
              simp only [Act.put, List.setIfInBounds_toArray, List.set_cons_zero, List.set_cons_succ]
              refine wpParts_det (by rfl) (fun W hE hN => ?_) ?_
              · go_simp; refine ⟨Below.refl _ _, ?_⟩; rfl
              simp only [Act.put, List.setIfInBounds_toArray, List.set_cons_zero, List.set_cons_succ]
              refine wpParts_det (by rfl) (fun W hE hN => ?_) ?_
              · go_simp; refine ⟨Below.refl _ _, ?_⟩; rfl
              simp only [Act.put, List.setIfInBounds_toArray, List.set_cons_zero, List.set_cons_succ]
              refine wpParts_det (by rfl) (fun W hE hN => ?_) ?_
              · have hc := fun b o h => hE.cell (p := ⟨b, o, none⟩) h
                go_simp; refine ⟨Below.refl _ _, ?_⟩; rfl
              simp only [Act.put, List.setIfInBounds_toArray, List.set_cons_zero, List.set_cons_succ]
              refine wpParts_det (by rfl) (fun W hE hN => ?_) ?_
              · go_simp; refine ⟨Below.refl _ _, ?_⟩; rfl
              simp only [Act.put, List.setIfInBounds_toArray, List.set_cons_zero, List.set_cons_succ]
              refine wpParts_det (by rfl) (fun W hE hN => ?_) ?_
              · go_simp; refine ⟨Below.refl _ _, ?_⟩; rfl
              simp only [Act.put, List.setIfInBounds_toArray, List.set_cons_zero, List.set_cons_succ]
              refine wpParts_det (by rfl) (fun W hE hN => ?_) ?_
              · go_simp; refine ⟨Below.refl _ _, ?_⟩; rfl
              simp only [Act.put, List.setIfInBounds_toArray, List.set_cons_zero, List.set_cons_succ]
              refine wpParts_det (by rfl) (fun W hE hN => ?_) ?_
              · go_simp; refine ⟨Below.refl _ _, ?_⟩; rfl
              simp only [Act.put, List.setIfInBounds_toArray, List.set_cons_zero, List.set_cons_succ]
              refine wpParts_det (by rfl) (fun W hE hN => ?_) ?_
              · have hc := fun b o h => hE.cell (p := ⟨b, o, none⟩) h
                go_simp; refine ⟨Below.refl _ _, ?_⟩; rfl
              simp only [Act.put, List.setIfInBounds_toArray, List.set_cons_zero, List.set_cons_succ]
              refine wpParts_det (by rfl) (fun W hE hN => ?_) ?_
              · go_simp; refine ⟨Below.refl _ _, ?_⟩; refine (HCALL.out W).mono ?_; rintro e w' ⟨rfl, hb⟩; refine ⟨?_, hb⟩; rfl
              simp only [Act.put, List.setIfInBounds_toArray, List.set_cons_zero, List.set_cons_succ]
              refine wpParts_det (by rfl) (fun W hE hN => ?_) ?_
              · go_simp; refine ⟨Below.refl _ _, ?_⟩; rfl
              simp only [Act.put, List.setIfInBounds_toArray, List.set_cons_zero, List.set_cons_succ]
              refine wpParts_det (by rfl) (fun W hE hN => ?_) ?_
              · go_simp; refine ⟨Below.refl _ _, ?_⟩; rfl
              simp only [Act.put, List.setIfInBounds_toArray, List.set_cons_zero, List.set_cons_succ]
              refine wpParts_end fun W2 hE2 hG2 => ?_
              have hcW2 := fun b o h => hE2.cell (p := ⟨b, o, none⟩) h
              have hfW2 := fun b o h => hE2.frozen (p := ⟨b, o, none⟩) h
              have HP2 := Lib.hid (HPA2.out.ext hE2)
              have HO2 := Lib.hid (HON2.out.ext hE2)
              clear hE2 hcW2 hfW2 mk lg x0 x1 x2 x3 x4 x5 y0 y1 y2 y3 y4 y5
              go_wp2_with fail
              go_roundw
              case rel => exact ⟨i + 1, m2, by omega, by omega, by go_num, HSEG2.out, HSO.out, HP2.out, HO2.out⟩
              case measure => simp [intOf]; omega
          | true =>
            rw [hk] at hdec
            have hdec2 : c < 0 := by simpa using hdec
            have HSW := Lib.hid (swap_seg (a := a) (b := b) HX.out HY.out ⟨by omega, by omega⟩ ⟨by have := HQ.out; omega, by have := HQ.out; omega⟩)
            have HIS := Lib.hid (HINS.out.swap (by omega) hji HX.out (by rw [show j - 1 = q by have := HQ.out; omega]; exact HY.out) hk)
            clear hk
            go_wp2_with fail
            refine' wp_region_seq [.inl _, .inl _, .inl _, .inl _, .inl _, .inl _, .inl _, .inl _, .inl _, .inl _, .inl _, .inl _, .inl _, .inl _, .inl _, .inl _, .inl _] (by kernel_rfl) (by kernel_rfl) ?main3
            case main3 =>
              refine wpParts_det (by rfl) (fun W hE hN => ?_) ?_
              · go_simp; refine ⟨Below.refl _ _, ?_⟩; rfl
              simp only [Act.put, List.setIfInBounds_toArray, List.set_cons_zero, List.set_cons_succ]
              refine wpParts_det (by rfl) (fun W hE hN => ?_) ?_
              · go_simp; refine ⟨Below.refl _ _, ?_⟩; rfl
              simp only [Act.put, List.setIfInBounds_toArray, List.set_cons_zero, List.set_cons_succ]
              refine wpParts_det (by rfl) (fun W hE hN => ?_) ?_
              · go_simp; refine ⟨Below.refl _ _, ?_⟩; rfl
              simp only [Act.put, List.setIfInBounds_toArray, List.set_cons_zero, List.set_cons_succ]
              refine wpParts_det (by rfl) (fun W hE hN => ?_) ?_
              · go_simp; refine ⟨Below.refl _ _, ?_⟩; rfl
              simp only [Act.put, List.setIfInBounds_toArray, List.set_cons_zero, List.set_cons_succ]
              refine wpParts_det (by rfl) (fun W hE hN => ?_) ?_
              · go_simp; refine ⟨Below.refl _ _, ?_⟩; rfl
              simp only [Act.put, List.setIfInBounds_toArray, List.set_cons_zero, List.set_cons_succ]
              refine wpParts_det (by rfl) (fun W hE hN => ?_) ?_
              · go_simp; refine ⟨Below.refl _ _, ?_⟩; rfl
              simp only [Act.put, List.setIfInBounds_toArray, List.set_cons_zero, List.set_cons_succ]
              refine wpParts_det (by rfl) (fun W hE hN => ?_) ?_
              · go_simp; refine ⟨Below.refl _ _, ?_⟩; rfl
              simp only [Act.put, List.setIfInBounds_toArray, List.set_cons_zero, List.set_cons_succ]
              refine wpParts_det (by rfl) (fun W hE hN => ?_) ?_
              · go_simp; refine ⟨Below.refl _ _, ?_⟩; rfl
              simp only [Act.put, List.setIfInBounds_toArray, List.set_cons_zero, List.set_cons_succ]
              refine wpParts_det (by rfl) (fun W hE hN => ?_) ?_
              · have hc := fun b o h => hE.cell (p := ⟨b, o, none⟩) h
                go_simp; refine ⟨Below.refl _ _, ?_⟩; rfl
              simp only [Act.put, List.setIfInBounds_toArray, List.set_cons_zero, List.set_cons_succ]
              refine wpParts_det (by rfl) (fun W hE hN => ?_) ?_
              · go_simp; refine ⟨Below.refl _ _, ?_⟩; rfl
              simp only [Act.put, List.setIfInBounds_toArray, List.set_cons_zero, List.set_cons_succ]
              refine wpParts_det (by rfl) (fun W hE hN => ?_) ?_
              · go_simp; refine ⟨Below.refl _ _, ?_⟩; rfl
              simp only [Act.put, List.setIfInBounds_toArray, List.set_cons_zero, List.set_cons_succ]
              refine wpParts_det (by rfl) (fun W hE hN => ?_) ?_
              · go_simp; refine ⟨Below.refl _ _, ?_⟩; rfl
              simp only [Act.put, List.setIfInBounds_toArray, List.set_cons_zero, List.set_cons_succ]
              refine wpParts_det (by rfl) (fun W hE hN => ?_) ?_
              · go_simp; refine ⟨Below.refl _ _, ?_⟩; rfl
              simp only [Act.put, List.setIfInBounds_toArray, List.set_cons_zero, List.set_cons_succ]
              refine wpParts_det (by rfl) (fun W hE hN => ?_) ?_
              · have hc := fun b o h => hE.cell (p := ⟨b, o, none⟩) h
                go_simp; refine ⟨Below.refl _ _, ?_⟩; rfl
              simp only [Act.put, List.setIfInBounds_toArray, List.set_cons_zero, List.set_cons_succ]
              refine wpParts_det (by rfl) (fun W hE hN => ?_) ?_
              · go_simp; refine ⟨Below.refl _ _, ?_⟩; refine (HCALL.out W).mono ?_; rintro e w' ⟨rfl, hb⟩; refine ⟨?_, hb⟩; rfl
              simp only [Act.put, List.setIfInBounds_toArray, List.set_cons_zero, List.set_cons_succ]
              refine wpParts_det (by rfl) (fun W hE hN => ?_) ?_
              · go_simp; refine ⟨Below.refl _ _, ?_⟩; rfl
              simp only [Act.put, List.setIfInBounds_toArray, List.set_cons_zero, List.set_cons_succ]
              refine wpParts_det (by rfl) (fun W hE hN => ?_) ?_
              · go_simp; refine ⟨Below.refl _ _, ?_⟩; rfl
              simp only [Act.put, List.setIfInBounds_toArray, List.set_cons_zero, List.set_cons_succ]
              refine wpParts_end fun W2 hE2 hG2 => ?_
              have hcW2 := fun b o h => hE2.cell (p := ⟨b, o, none⟩) h
              have hfW2 := fun b o h => hE2.frozen (p := ⟨b, o, none⟩) h
              have hp2 := HPA2.out.ext hE2
              have HP2 := Lib.hid hp2
              have HO2 := Lib.hid (HON2.out.ext hE2)
              clear hE2 hcW2 hfW2 mk lg x0 x1 x2 x3 x4 x5 y0 y1 y2 y3 y4 y5 hdec hdec2 gd gd2
              obtain ⟨x0, x1, x2, x3, x4, x5⟩ := hp2.get HX.out
              obtain ⟨y0, y1, y2, y3, y4, y5⟩ := hp2.get HY.out
              have mk := hp2.marks
              have lg := hp2.lt
              clear hp2
              go_wp2_with fail
              refine wp_region_any (by kernel_rfl) ?_
              obtain ⟨D, hD⟩ : ∃ D, ({ W2 with drawn := W2.drawn + 1 } : World) = D := ⟨_, rfl⟩
              have hpD : PairsAt D g m2 56 := by rw [← hD]; exact HP2.out
              have honD : ∀ (p : Nat → Prop) (w0 : World), OnlyS p w0 W2 → OnlyS p w0 D := fun p w0 h => by rw [← hD]; exact h.ext (Below.refl _ _).drew
              first | rw [hD] | rw [show _ = D from hD]
              have hpD1 : PairsAt (set6W D g j y) g (m2.set j y) 56 := hpD.set (List.getElem?_eq_some_iff.1 HX.out).1 y
              have hJ1 : ∃ e0, (m2.set j y)[q]? = some e0 := ⟨_, List.getElem?_eq_getElem (by rw [List.length_set]; exact (List.getElem?_eq_some_iff.1 HY.out).1)⟩
              obtain ⟨e0, hJ1⟩ := hJ1
              have hp3 : PairsAt (set6W (set6W D g j y) g q x) g ((m2.set j y).set q x) 56 := hpD1.set (List.getElem?_eq_some_iff.1 hJ1).1 x
              have hon3 : ∀ (p : Nat → Prop) (w0 : World), p g → OnlyS p w0 W2 → OnlyS p w0 (set6W (set6W D g j y) g q x) := fun p w0 hg h => onlyS_set6 (onlyS_set6 (honD p w0 h) hg) hg
              clear hD honD
              refine wpAny_takeD (i := 0) (v := ?_) (some 37) rfl rfl (by kernel_rfl) (by kernel_rfl) (by kernel_rfl) (fun _ _ _ h => h) (Or.inl ⟨by rfl, ?_⟩) ?_
              rotate_left
              · intro w'; go_simp; rfl
              simp only [Act.put, List.setIfInBounds_toArray, List.set_cons_zero, List.set_cons_succ]
              refine wpAny_takeD (i := 1) (v := ?_) (some 38) rfl rfl (by kernel_rfl) (by kernel_rfl) (by kernel_rfl) (fun _ _ _ h => h) (Or.inl ⟨by rfl, ?_⟩) ?_
              rotate_left
              · intro w'; go_simp; rfl
              simp only [Act.put, List.setIfInBounds_toArray, List.set_cons_zero, List.set_cons_succ]
              refine wpAny_takeD (i := 2) (v := ?_) (some 39) rfl rfl (by kernel_rfl) (by kernel_rfl) (by kernel_rfl) (fun _ _ _ h => h) (Or.inl ⟨by rfl, ?_⟩) ?_
              rotate_left
              · intro w'; go_simp; rfl
              simp only [Act.put, List.setIfInBounds_toArray, List.set_cons_zero, List.set_cons_succ]
              refine wpAny_takeD (i := 3) (v := ?_) (some 40) rfl rfl (by kernel_rfl) (by kernel_rfl) (by kernel_rfl) (fun _ _ _ h => h) (Or.inl ⟨by rfl, ?_⟩) ?_
              rotate_left
              · intro w'; go_simp; rfl
              simp only [Act.put, List.setIfInBounds_toArray, List.set_cons_zero, List.set_cons_succ]
              refine wpAny_takeD (i := 4) (v := ?_) (some 41) rfl rfl (by kernel_rfl) (by kernel_rfl) (by kernel_rfl) (fun _ _ _ h => h) (Or.inl ⟨by rfl, ?_⟩) ?_
              rotate_left
              · intro w'; go_simp; rfl
              simp only [Act.put, List.setIfInBounds_toArray, List.set_cons_zero, List.set_cons_succ]
              refine wpAny_takeD (i := 5) (v := ?_) (some 42) rfl rfl (by kernel_rfl) (by kernel_rfl) (by kernel_rfl) (fun _ _ _ h => h) (Or.inl ⟨by rfl, ?_⟩) ?_
              rotate_left
              · intro w'; go_simp; rfl
              simp only [Act.put, List.setIfInBounds_toArray, List.set_cons_zero, List.set_cons_succ]
              refine wpAny_takeD (i := 6) (v := ?_) (some 43) rfl rfl (by kernel_rfl) (by kernel_rfl) (by kernel_rfl) (fun _ _ _ h => h) (Or.inl ⟨by rfl, ?_⟩) ?_
              rotate_left
              · intro w'; go_simp; rfl
              simp only [Act.put, List.setIfInBounds_toArray, List.set_cons_zero, List.set_cons_succ]
              refine wpAny_takeD (i := 7) (v := ?_) (some 44) rfl rfl (by kernel_rfl) (by kernel_rfl) (by kernel_rfl) (fun _ _ _ h => h) (Or.inl ⟨by rfl, ?_⟩) ?_
              rotate_left
              · intro w'; go_simp; rfl
              simp only [Act.put, List.setIfInBounds_toArray, List.set_cons_zero, List.set_cons_succ]
              refine wpAny_takeD (i := 8) (v := ?_) (some 45) rfl rfl (by kernel_rfl) (by kernel_rfl) (by kernel_rfl) (fun _ _ _ h => h) (Or.inl ⟨by rfl, ?_⟩) ?_
              rotate_left
              · intro w'; go_simp; rfl
              simp only [Act.put, List.setIfInBounds_toArray, List.set_cons_zero, List.set_cons_succ]
              refine wpAny_takeD (i := 10) (v := ?_) (some 47) rfl rfl (by kernel_rfl) (by kernel_rfl) (by kernel_rfl) (fun _ _ _ h => h) (Or.inl ⟨by rfl, ?_⟩) ?_
              rotate_left
              · intro w'; go_simp; rfl
              simp only [Act.put, List.setIfInBounds_toArray, List.set_cons_zero, List.set_cons_succ]
              refine wpAny_takeD (i := 11) (v := ?_) (some 48) rfl rfl (by kernel_rfl) (by kernel_rfl) (by kernel_rfl) (fun _ _ _ h => h) (Or.inl ⟨by rfl, ?_⟩) ?_
              rotate_left
              · intro w'; go_simp; rfl
              simp only [Act.put, List.setIfInBounds_toArray, List.set_cons_zero, List.set_cons_succ]
              refine wpAny_takeD (i := 12) (v := ?_) (some 49) rfl rfl (by kernel_rfl) (by kernel_rfl) (by kernel_rfl) (fun _ _ _ h => h) (Or.inl ⟨by rfl, ?_⟩) ?_
              rotate_left
              · intro w'; go_simp; rfl
              simp only [Act.put, List.setIfInBounds_toArray, List.set_cons_zero, List.set_cons_succ]
              refine wpAny_all (rs := [9, 13]) (by kernel_rfl) (by simp) fun jj hj => ?_
              simp only [List.mem_cons, List.not_mem_nil, or_false] at hj
              rcases hj with rfl | rfl
              refine wpOp_valE (w' := D) (some 46) rfl rfl rfl (Tryd_load6 rfl rfl hpD HY.out) ?_
              simp only [Act.put, List.setIfInBounds_toArray, List.set_cons_zero, List.set_cons_succ]
              refine wpAny_runsD (i := 13) (w' := D) (some 50) (by kernel_rfl) rfl rfl (by rfl) (Tryd_load6 rfl rfl hpD HX.out) ?_
              rotate_left
              refine wpOp_valE (w' := D) (some 50) rfl rfl rfl (Tryd_load6 rfl rfl hpD HX.out) ?_
              simp only [Act.put, List.setIfInBounds_toArray, List.set_cons_zero, List.set_cons_succ]
              refine wpAny_runsD (i := 9) (w' := D) (some 46) (by kernel_rfl) rfl rfl (by rfl) (Tryd_load6 rfl rfl hpD HY.out) ?_
              all_goals
                simp only [Act.put, List.setIfInBounds_toArray, List.set_cons_zero, List.set_cons_succ]
                refine wpAny_takeD (i := 14) (v := ?_) (some 51) rfl rfl (by kernel_rfl) (by kernel_rfl) (by kernel_rfl) (fun _ _ _ h => h) (Or.inl ⟨by rfl, ?_⟩) ?_
                rotate_left
                · intro w'; go_simp; rfl
                simp only [Act.put, List.setIfInBounds_toArray, List.set_cons_zero, List.set_cons_succ]
                refine wpAny_skipsD (i := 15) none (by kernel_rfl) rfl rfl (by rfl) (Tryd_store6 (e := y) rfl rfl rfl hpD HX.out) ?_
                simp only [Act.put, List.setIfInBounds_toArray, List.set_cons_zero, List.set_cons_succ]
                refine wpAny_takeD (i := 16) (v := ?_) (some 52) rfl rfl (by kernel_rfl) (by kernel_rfl) (by kernel_rfl) (fun _ _ _ h => h) (Or.inl ⟨by rfl, ?_⟩) ?_
                rotate_left
                · intro w'; go_simp; rfl
                simp only [Act.put, List.setIfInBounds_toArray, List.set_cons_zero, List.set_cons_succ]
                refine wpAny_skipsD (i := 17) none (by kernel_rfl) rfl rfl (by rfl) (Tryd_store6 (e := x) rfl rfl rfl hpD1 hJ1) ?_
                simp only [Act.put, List.setIfInBounds_toArray, List.set_cons_zero, List.set_cons_succ]
                refine wpAny_done (by kernel_rfl) ?_ _
              all_goals
                have HP3 := Lib.hid hp3
                have HO3 := Lib.hid (hon3 (· = g) w rfl HO2.out)
                clear hp3 hon3 x0 x1 x2 x3 x4 x5 y0 y1 y2 y3 y4 y5 mk lg
                go_wp2_with fail
                go_roundw
                case rel => exact ⟨q, _, by have := HQ.out; omega, by have := HQ.out; omega, by go_num, HSEG2.out.trans HSW.out (Nat.le_refl _) (Nat.le_refl _), by have h := HIS.out; rw [show j - 1 = q by have := HQ.out; omega] at h; exact h, HP3.out, HO3.out⟩
                case measure => have := HQ.out; simp [intOf]; omega
    · have g1 : ¬ (i : Int) < (b : Int) := by omega
      have HSO := Lib.hid (show SortedS m a b from fun p q x y h1 h2 h3 hx hy => HSOR.out p q x y h1 h2 (by omega) hx hy)
      clear hlt
      go_wp2
      go_end0
      exact ⟨rfl, m, ⟨HSEG.out, HSO.out⟩, HPA.out, HON.out⟩
end Go.Proofs.YtmcmknndhppljaaDoor

namespace Go.Dav
set_option linter.unusedVariables false
set_option linter.unusedSimpArgs false
open Go Go.RowKit
/-- So many pairs are sorted, at most, in what follows. -/
def sortMost : Nat := 19
end Go.Dav
namespace Go.Proofs.YtmcmknndhppljaaDoor
set_option linter.unusedVariables false
set_option linter.unusedSimpArgs false
open Go.RowKit Go.Dav
attribute [local go_sem] Gives ite_val ite_val_true

set_option maxRecDepth 8000 in
set_option maxHeartbeats 4000000 in
theorem Tryd_stable (g n cap : Nat) (l : List PairE) (w : World) (hl : l.length = n) (hn : n ≤ sortMost) (hnc : n ≤ cap) (hp : PairsAt w g l 56) :
    Calls Tryd.prog 76 #[.slice (some ⟨g, 0, none⟩) n cap, .int .i64 (n : Int), .func (.func 56) #[] #[]] w (TrydSorts w g l fun l' => SegP l l' 0 n ∧ SortedS l' 0 n) := by
  unfold sortMost at hn
  have HC := Lib.hid (Tryd_insertion g n cap 0 n l w hl (Nat.zero_le _) (Nat.le_refl _) hnc (by omega) hp)
  have g1 : ¬ (20 : Int) ≤ (n : Int) := by omega
  have g2 : ¬ (20 : Int) < (n : Int) := by omega
  clear hl hp
  go_enter Tryd.func76, Tryd.ntmps76
  go_wp2_with fail
  refine wp_loop_rounds 1 ?_
  rw [rounds_succ]
  go_wp2_with fail
  refine HC.out.mono ?_; rintro e w1 ⟨rfl, m, hm, hpm, hom⟩
  go_wp2_with fail
  refine wp_loop_rounds 1 ?_
  rw [rounds_succ]
  go_wp2
  go_end0
  exact ⟨rfl, m, hm, hpm, hom⟩

theorem Tryd_sortStable (g n cap : Nat) (l : List PairE) (w : World) (hl : l.length = n) (hn : n ≤ sortMost) (hnc : n ≤ cap) (hp : PairsAt w g l 56) :
    Calls Tryd.prog 55 #[.slice (some ⟨g, 0, none⟩) n cap, .func (.func 56) #[] #[]] w (TrydSorts w g l fun l' => SegP l l' 0 n ∧ SortedS l' 0 n) := by
  have HC := Lib.hid (Tryd_stable g n cap l w hl hn hnc hp)
  clear hl hp hn
  go_enter Tryd.func55, Tryd.ntmps55
  go_wp2_with fail
  refine HC.out.mono ?_; rintro e w1 ⟨rfl, m, hm, hpm, hom⟩
  go_wp2
  go_end0
  exact ⟨rfl, m, hm, hpm, hom⟩
end Go.Proofs.YtmcmknndhppljaaDoor

namespace Go.Dav
set_option linter.unusedVariables false
set_option linter.unusedSimpArgs false
open Go Go.RowKit

/-- What an operation brings about: values, and a world that stands to the former one as K says. -/
def GivesK (P : Program) (K : World → World → Prop) (o : Oper) (a : Act) (W : World) (R : Value → World → Prop) : Prop :=
  match (execOp a.eval o).run P W with
  | .ok (.value u) W' => K W W' ∧ R u W'
  | .ok .skip W' => K W W' ∧ R undef W'
  | .ok (.enter f args) W' => Below W.heap.size W W' ∧ Calls P f args W' (fun e W'' => ∃ v, e = .returned v ∧ K W' W'' ∧ R v W'')
  | _ => False
def Bel (W W' : World) : Prop := Below W.heap.size W W'
/-- K holds whatever grows, and goes on. -/
structure Goes (K : World → World → Prop) : Prop where
  bel : ∀ W W', Below W.heap.size W W' → K W W'
  trans : ∀ A B C, K A B → K B C → K A C
theorem goes_bel : Goes Bel := ⟨fun _ _ h => h, fun _ _ _ h k => ext_trans h k⟩
def relOf (K : World → World → Prop) (p i : Nat) : World → World → Prop := if i = p then K else Bel
theorem relOf_le {K : World → World → Prop} (g : Goes K) {p i : Nat} {W W' : World} (h : relOf K p i W W') : K W W' := by
  unfold relOf at h; split at h
  · exact h
  · exact g.bel _ _ h
theorem relOf_bel {K : World → World → Prop} (g : Goes K) {p i : Nat} {W W' : World} (h : Below W.heap.size W W') : relOf K p i W W' := by
  unfold relOf; split
  · exact g.bel _ _ h
  · exact h
theorem relOf_goes {K : World → World → Prop} (g : Goes K) (p i : Nat) : Goes (relOf K p i) := by
  unfold relOf; split
  · exact g
  · exact goes_bel
theorem wp_of_givesK {P : Program} {K0 : World → World → Prop} (g : Goes K0) {o : Oper} {a : Act} {W : World} {R : Value → World → Prop} {K : Act → World → Prop} {Q : Exit → Act → World → Prop}
    (h : GivesK P K0 o a W R) (hk : ∀ v W', K0 W W' → R v W' → K (a.put o.dst v) W') : o.wp P a W K Q := by
  unfold GivesK at h
  unfold Oper.wp
  generalize (execOp a.eval o).run P W = r at *
  cases r with
  | ok n w' =>
    cases n <;> simp only [Oper.upon] at h ⊢
    case value u => exact hk _ _ h.1 h.2
    case skip => exact hk _ _ h.1 h.2
    case enter f args =>
      refine h.2.mono fun e w'' ⟨v, he, hb, hr⟩ => ?_
      subst he
      exact hk _ _ (g.trans _ _ _ (g.bel _ _ h.1) hb) hr
  | halt x w' => cases h
theorem GivesK.of_eval {P : Program} {K : World → World → Prop} {o : Oper} {a a' : Act} {W : World} {R : Value → World → Prop} (h : GivesK P K o a W R) (he : execOp a'.eval o = execOp a.eval o) : GivesK P K o a' W R := by
  unfold GivesK at *
  rwa [he]

section
variable {P : Program} {ops : Array Oper} {K0 : World → World → Prop} {p0 : Nat}

structure MidK (K0 : World → World → Prop) (p0 : Nat) (ops : Array Oper) (n : Nat) (ps : Nat → Value ⊕ (Value → World → Prop)) (a0 : Act) (w0 : World) (listed : Array Bool) (vs : Nat → Value) (a : Act) (W : World) : Prop where
  ext : K0 w0 W
  ext2 : listed.getD p0 false = false → Below w0.heap.size w0 W
  size : a.tmps.size = a0.tmps.size
  defers : a.defers = a0.defers
  slots : ∀ t : Nat, a.tmps[t]? = slotOf ops (fun j => listed.getD j false) vs a0 n t
  held : ∀ j, j < n → listed.getD j false = true → holdsOf (ps j) (vs j) W

def stepForK (P : Program) (K0 : World → World → Prop) (p0 : Nat) (ops : Array Oper) (ps : Nat → Value ⊕ (Value → World → Prop)) (a0 : Act) (w0 : World) (vs : Nat → Value) (i : Nat) : Prop :=
  match ops[i]? with
  | none => True
  | some o => ∀ W, K0 w0 W → (i = p0 → Below w0.heap.size w0 W) → depsHold ops ps vs o W i →
      if Region.wanted o (yielded ops (lay ops vs a0 i).tmps) then GivesK P (relOf K0 p0 i) o (lay ops vs a0 i) W (holdsOf (ps i)) else holdsOf (ps i) undef W

/-- What is laid of an operation stays. -/
def staysK (K0 : World → World → Prop) (p0 j : Nat) (R : Value → World → Prop) : Prop := (∀ v W W', R v W → Below W.heap.size W W' → R v W') ∧ (j ≠ p0 → ∀ v W W', R v W → K0 W W' → R v W')
theorem staysK.step {j i : Nat} {R : Value → World → Prop} (h : staysK K0 p0 j R) (hne : j ≠ i) {v : Value} {W W' : World} (hR : R v W) (hr : relOf K0 p0 i W W') : R v W' := by
  unfold relOf at hr
  split at hr
  · rename_i e; exact h.2 (by rw [← e]; exact hne) v W W' hR hr
  · exact h.1 v W W' hR hr

theorem mid_stepK (g : Goes K0) {n : Nat} {ps : Nat → Value ⊕ (Value → World → Prop)} {a0 : Act} {w0 : World} {listed : Array Bool} {vs : Nat → Value} {a : Act} {W : World} {Q : Exit → Act → World → Prop}
    (hB : tidyB ops n = true) (hsel : Region.noSelect ops = true) (hst : ∀ j R, ps j = .inr R → staysK K0 p0 j R)
    (hop : ∀ vs i, i < n → stepForK P K0 p0 ops ps a0 w0 vs i) (inv : HeadInv .any ops n listed) (mid : MidK K0 p0 ops n ps a0 w0 listed vs a W)
    {i : Nat} (hr : i ∈ Region.ready .any ops listed) (hin : i < n) {K : Act → World → Prop}
    (hk : ∀ vs a W, HeadInv .any ops n (listed.setIfInBounds i true) → MidK K0 p0 ops n ps a0 w0 (listed.setIfInBounds i true) vs a W → K a W) : wpOp P ops Q i K a W := by
  obtain ⟨hun, oi, hoi, hall⟩ := mem_ready.1 hr
  have hunf : listed.getD i false = false := getD_both hun
  have hisz : i < listed.size := by rw [inv.size]; exact (Array.getElem?_eq_some_iff.1 hoi).1
  -- what a listed operation has to do with i
  have later : ∀ j oj d, j < n → ops[j]? = some oj → oj.dst = some d → listed.getD j false = true → (d ∈ oi.looksAt ops ∨ oi.dst = some d) → j < i := by
    intro j oj d hj hoj hd hl hlook
    have hji : i ≠ j := fun e => by subst e; rw [hunf] at hl; cases hl
    obtain ⟨_, h1, _⟩ := tidy_spec hB hin hj hoi hoj hd (hlook.imp id fun h => ⟨h, hji⟩)
    rcases Nat.lt_trichotomy i j with h | h | h
    · obtain ⟨oj', hoj', e, he, hb, hon⟩ := Region.waitsFor_spec (h1 h)
      have := inv.closed j oj' hoj' hl e he hb
      rw [hon, hunf] at this
      cases this
    · exact absurd h hji
    · exact h
  have early : ∀ j oj d, j < i → ops[j]? = some oj → oj.dst = some d → (d ∈ oi.looksAt ops) → listed.getD j false = true := by
    intro j oj d hj hoj hd hlook
    obtain ⟨_, _, h2⟩ := tidy_spec hB hin (by omega) hoi hoj hd (.inl hlook)
    obtain ⟨oi', hoi', e, he, hb, hon⟩ := Region.waitsFor_spec (h2 hj)
    have : oi' = oi := Option.some.inj (hoi'.symm.trans hoi)
    subst this
    have := hall e he hb
    rwa [hon] at this
  have looks : ∀ t ∈ oi.looksAt ops, (lay ops vs a0 i).tmps[t]? = a.tmps[t]? := by
    intro t ht
    rw [lay_get, mid.slots t]
    unfold slotOf
    rw [lastW_eq (ops := ops) (t := t) (p := fun _ => true) (q := fun j => listed.getD j false) (m := i) (n := n) ?_]
    intro j
    constructor
    · rintro ⟨h1, _, h3⟩
      obtain ⟨oj, hoj, hd⟩ := Option.bind_eq_some_iff.1 h3
      exact ⟨by omega, early j oj t h1 hoj hd ht, h3⟩
    · rintro ⟨h1, h2, h3⟩
      obtain ⟨oj, hoj, hd⟩ := Option.bind_eq_some_iff.1 h3
      exact ⟨later j oj t h1 hoj hd h2 (.inl ht), rfl, h3⟩
  have hdeps : depsHold ops ps vs oi W i := depsHold_of i fun j d hj hd hl => by
    obtain ⟨oj, hoj, hd'⟩ := Option.bind_eq_some_iff.1 hd
    exact mid.held j (by omega) (early j oj d hj hoj hd' hl)
  have hs := hop vs i hin
  unfold stepForK at hs
  simp only [hoi] at hs
  have hs := hs W mid.ext (fun e => mid.ext2 (by rw [← e]; exact hunf)) hdeps
  rw [wanted_congr looks] at hs
  have next : ∀ v W', relOf K0 p0 i W W' → holdsOf (ps i) v W' → K (a.put oi.dst v) W' := by
    intro v W' hb hv
    refine hk (fun j => if j = i then v else vs j) _ W' (inv.set hr hin) ⟨g.trans _ _ _ mid.ext (relOf_le g hb), fun hp0 => ?_, by rw [put_size, mid.size], by rw [put_defers, mid.defers], fun t => ?_, fun j hj hl => ?_⟩
    · have hne : p0 ≠ i := fun e => by subst e; simp [hisz] at hp0
      have hb' : Below W.heap.size W W' := by unfold relOf at hb; rw [if_neg (fun e => hne e.symm)] at hb; exact hb
      exact ext_trans (mid.ext2 (by rwa [getD_set_ne false (Ne.symm hne)] at hp0)) hb'
    · rw [put_get, mid.size]
      unfold slotOf
      by_cases hd : oi.dst = some t
      · simp only [hd, if_true]
        have : lastW ops (fun j => (listed.setIfInBounds i true).getD j false) t n = some i := by
          cases hc : lastW ops (fun j => (listed.setIfInBounds i true).getD j false) t n with
          | none => exact absurd ⟨by simp [hisz], by simp [hoi, hd]⟩ (lastW_none hc i hin)
          | some j =>
            obtain ⟨c1, c2, c3, c4⟩ := lastW_some hc
            obtain ⟨oj, hoj, hdj⟩ := Option.bind_eq_some_iff.1 c3
            by_cases e : j = i
            · rw [e]
            · have hlj : listed.getD j false = true := by rwa [getD_set_ne false (Ne.symm e)] at c2
              have := later j oj t c1 hoj hdj hlj (.inr hd)
              exact absurd ⟨by simp [hisz], by simp [hoi, hd]⟩ (c4 i this hin)
        rw [this]
        simp
      · simp only [hd, if_false]
        rw [mid.slots t]
        unfold slotOf
        have : lastW ops (fun j => (listed.setIfInBounds i true).getD j false) t n = lastW ops (fun j => listed.getD j false) t n := by
          refine lastW_eq fun j => ?_
          by_cases e : j = i
          · subst e; simp [hoi, hd]
          · rw [getD_set_ne false (Ne.symm e)]
        rw [this]
        cases hc : lastW ops (fun j => listed.getD j false) t n with
        | none => rfl
        | some j =>
          obtain ⟨c1, c2, c3, c4⟩ := lastW_some hc
          have e : j ≠ i := fun e => by subst e; simp [hoi, hd] at c3
          simp [e]
    · by_cases e : j = i
      · subst e; simpa using hv
      · simp only [e, if_false]
        have hl' : listed.getD j false = true := by rwa [getD_set_ne false (Ne.symm e)] at hl
        have h1 := mid.held j hj hl'
        cases hp : ps j with
        | inl u => simpa [hp, holdsOf] using h1
        | inr R => simp only [hp, holdsOf] at h1 ⊢; exact (hst j R hp).step e h1 hb
  unfold wpOp
  simp only [hoi]
  split
  · rename_i hw
    simp only [hw, if_true] at hs
    exact .inl (wp_of_givesK (relOf_goes g p0 i) (hs.of_eval (exec_congr (fun cs b => Region.noSelect_spec hsel i oi cs b hoi) (fun t ht => (looks t ht).symm))) next)
  · rename_i hw
    simp only [hw] at hs
    exact next _ _ (relOf_bel g (Below.refl _ _)) (by simpa using hs)


theorem wpAny_of_midK (g : Goes K0) {n : Nat} {ps : Nat → Value ⊕ (Value → World → Prop)} {a0 : Act} {w0 : World} {Q : Exit → Act → World → Prop} {l : List Oper}
    (hl : ∀ j : Nat, l[j]? = ops[n + j]?) (hll : l.length = ops.size - n)
    (hB : partsB ops n = true) (hst : ∀ j R, ps j = .inr R → staysK K0 p0 j R)
    (hop : ∀ vs i, i < n → stepForK P K0 p0 ops ps a0 w0 vs i)
    (hend : ∀ vs W, K0 w0 W → allHold ps vs W n → wpList P ops Q l (lay ops vs a0 n) W) :
    ∀ (f : Nat) (listed : Array Bool) (vs : Nat → Value) (a : Act) (W : World), HeadInv .any ops n listed → MidK K0 p0 ops n ps a0 w0 listed vs a W → cnt listed n = f →
      wpAny P .any ops Q (f + (ops.size - n)) listed a W := by
  simp only [partsB, Bool.and_eq_true, decide_eq_true_eq] at hB
  obtain ⟨⟨⟨⟨⟨hsel, htidy⟩, hback⟩, hn⟩, htail0⟩, hseq⟩ := hB
  have htail : n = ops.size ∨ (Region.sinkB .any ops n = true ∧ Region.chainB .any ops n = true) := by simpa using htail0
  intro f
  induction f with
  | zero =>
    intro listed vs a W inv mid hc
    have hall := cnt_zero listed n hc
    have hlisted : listed = (Array.range ops.size).map fun j => decide (j < n) := by
      apply Array.ext
      · simp [inv.size]
      · intro j h1 h2
        simp only [Array.getElem_map, Array.getElem_range]
        by_cases hj : j < n
        · have := hall j hj
          simp only [h1, Array.getD_eq_getD_getElem?, Array.getElem?_eq_getElem, Option.getD_some] at this
          simp [hj, this]
        · have := getD_both (inv.tail j (by omega) (by simpa using h2))
          simp only [h1, Array.getD_eq_getD_getElem?, Array.getElem?_eq_getElem, Option.getD_some] at this
          simp [hj, this]
    have ha : a = lay ops vs a0 n := act_ext (fun t => by
      rw [lay_get, mid.slots t]
      unfold slotOf
      rw [lastW_eq (ops := ops) (t := t) (p := fun j => listed.getD j false) (q := fun _ => true) (m := n) (n := n) ?_]
      intro j
      constructor
      · rintro ⟨h1, _, h3⟩; exact ⟨h1, rfl, h3⟩
      · rintro ⟨h1, _, h3⟩; exact ⟨h1, hall j h1, h3⟩) (by rw [mid.defers, lay_defers])
    have h := hend vs W mid.ext (allHold_of n fun j hj => mid.held j hj (hall j hj))
    rw [Nat.zero_add, ← hll]
    rw [← hlisted, ← hll] at hseq
    rw [ha]
    exact wpAny_of_seq l n listed _ W hl hseq h
  | succ f ih =>
    intro listed vs a W inv mid hc
    obtain ⟨i0, hi0, hu0, hlow⟩ := least_unlisted listed n (by omega)
    rw [show f + 1 + (ops.size - n) = (f + (ops.size - n)) + 1 by omega]
    refine ⟨fun h => ?_, fun i hi => ?_⟩
    · exfalso
      have h1 := List.all_eq_true.1 hback i0 (List.mem_range.2 hi0)
      cases ho : ops[i0]? with
      | none => simp [ho] at h1
      | some o =>
        simp only [ho] at h1
        have : i0 ∈ Region.ready .any ops listed := by
          refine mem_ready.2 ⟨getD_in (by rw [inv.size]; omega) hu0, o, ho, fun e he hb => ?_⟩
          have h2 := Array.all_eq_true'.1 h1 e he
          simp only [hb, Bool.not_true, Bool.false_or, decide_eq_true_eq] at h2
          exact hlow e.on h2
        rw [h] at this
        cases this
    · have hin : i < n := by
        rcases Nat.lt_or_ge i n with h | h
        · exact h
        · rcases htail with ht | ht
          · obtain ⟨_, o, ho, _⟩ := mem_ready.1 hi
            have := (Array.getElem?_eq_some_iff.1 ho).1
            omega
          · rcases Nat.lt_or_ge n ops.size with hns | hns
            · exact absurd hi (tail_waits ht.1 ht.2 hns inv _ i0 rfl hi0 (getD_in (by rw [inv.size]; omega) hu0) i h)
            · obtain ⟨_, o, ho, _⟩ := mem_ready.1 hi
              have := (Array.getElem?_eq_some_iff.1 ho).1
              omega
      have hun := (mem_ready.1 hi).1
      refine mid_stepK g htidy hsel hst hop inv mid hi hin fun vs' a' W' inv' mid' => ih _ vs' a' W' inv' mid' ?_
      have := cnt_set listed i (by rw [inv.size]; omega) (getD_both hun) n hin
      omega

theorem wp_region_partsK (g : Goes K0) {id : Nat} {ops : List Oper} {Q : Exit → Act → World → Prop} {a : Act} {w : World} (n : Nat) (ps : Nat → Value ⊕ (Value → World → Prop)) (hm : P.follows .mixedOrders = true) (hB : partsB ops.toArray n = true)
    (hst : ∀ j R, ps j = .inr R → staysK K0 p0 j R)
    (hop : ∀ vs i, i < n → stepForK P K0 p0 ops.toArray ps a w vs i)
    (hend : ∀ vs W, K0 w W → allHold ps vs W n → wpList P ops.toArray Q (ops.drop n) (lay ops.toArray vs a n) W) : (Code.region id ops.toArray true).wp P Q a w := by
  have hn : n ≤ ops.toArray.size := by
    simp only [partsB, Bool.and_eq_true, decide_eq_true_eq] at hB
    exact hB.1.1.2
  have he : K0 w { w with drawn := w.drawn + 1 } := g.bel _ _ (Below.refl _ _).drew
  have hc : ∀ m, cnt (Array.replicate ops.toArray.size false) m = m := fun m => by
    induction m with
    | zero => rfl
    | succ m ih => rw [cnt, ih, getD_replicate_false]; rfl
  refine wp_region_any hm ?_
  have := wpAny_of_midK g (P := P) (ops := ops.toArray) (l := ops.drop n) (fun j => by simp [List.getElem?_drop]) (by simp) hB hst hop hend n (Array.replicate ops.toArray.size false) (fun _ => undef) a { w with drawn := w.drawn + 1 }
    ⟨by simp, fun j oj _ hl => (by rw [getD_replicate_false] at hl; cases hl), fun t _ ht => getD_in (by simpa using ht) (getD_replicate_false _ _)⟩
    ⟨he, fun _ => (Below.refl _ _).drew, rfl, rfl, fun t => ?_, fun j _ hl => (by rw [getD_replicate_false] at hl; cases hl)⟩ (hc n)
  · rwa [show n + (ops.toArray.size - n) = ops.toArray.size by omega] at this
  · unfold slotOf
    rw [show lastW ops.toArray (fun j => (Array.replicate ops.toArray.size false).getD j false) t n = none from ?_]
    cases h : lastW ops.toArray (fun j => (Array.replicate ops.toArray.size false).getD j false) t n with
    | none => rfl
    | some j => have := (lastW_some h).2.1; rw [getD_replicate_false] at this; cases this

end

section
variable {P : Program} {K0 : World → World → Prop} {p0 : Nat}

/-- The walk in the order of the text; k is the next operation's number. -/
def wpPartsK (P : Program) (K0 : World → World → Prop) (p0 : Nat) (ops : Array Oper) (w : World) (Q : Exit → Act → World → Prop) : Nat → List Oper → List Piece → List (Tmp × (World → Prop)) → Act → Prop
  | k, o :: os, .inl v :: ps, G, a =>
    (if Region.wanted o (yielded ops a.tmps) then (∀ W, K0 w W → (k = p0 → Below w.heap.size w W) → near ops o G W → GivesK P (relOf K0 p0 k) o a W (fun u _ => u = v)) else undef = v) ∧ wpPartsK P K0 p0 ops w Q (k + 1) os ps G (a.put o.dst v)
  | k, o :: os, .inr R :: ps, G, a =>
    (staysK K0 p0 k R ∧ Region.wanted o (yielded ops a.tmps) = true ∧ (∀ W, K0 w W → (k = p0 → Below w.heap.size w W) → near ops o G W → GivesK P (relOf K0 p0 k) o a W R)) ∧
      ∀ u, wpPartsK P K0 p0 ops w Q (k + 1) os ps (match o.dst with | some d => (d, R u) :: G | none => G) (a.put o.dst u)
  | _, os, _, G, a => ∀ W, K0 w W → every G W → wpList P ops Q os a W

end

section
variable {P : Program} {ops : Array Oper} {K0 : World → World → Prop} {p0 : Nat}

/-- What the walk in the order of the text says of each operation, and of what stands behind. -/
theorem parts_specK {w : World} {Q : Exit → Act → World → Prop} {a : Act} {qs : Nat → Piece} (vs : Nat → Value) :
    ∀ (l : List Oper) (ps : List Piece) (k : Nat), (∀ j : Nat, l[j]? = ops[k + j]?) → (∀ j p, ps[j]? = some p → qs (k + j) = p) → ps.length ≤ l.length →
      wpPartsK P K0 p0 ops w Q k l ps (facts ops qs vs k) (lay ops (fixed qs vs) a k) →
      (∀ i, k ≤ i → i < k + ps.length → ∃ o, ops[i]? = some o ∧ ∀ W, K0 w W → (i = p0 → Below w.heap.size w W) → near ops o (facts ops qs vs i) W →
        (if Region.wanted o (yielded ops (lay ops (fixed qs vs) a i).tmps) then GivesK P (relOf K0 p0 i) o (lay ops (fixed qs vs) a i) W (holdsOf (qs i)) else holdsOf (qs i) undef W)) ∧
      (∀ i R, k ≤ i → i < k + ps.length → qs i = .inr R → staysK K0 p0 i R) ∧
      (∀ W, K0 w W → every (facts ops qs vs (k + ps.length)) W → wpList P ops Q (l.drop ps.length) (lay ops (fixed qs vs) a (k + ps.length)) W)
  | l, [], k, _, _, _, h => by
    refine ⟨fun i h1 h2 => ?_, fun i R h1 h2 => ?_, ?_⟩
    · simp at h2; omega
    · simp at h2; omega
    · cases l <;> simpa [wpPartsK] using h
  | [], _ :: _, _, _, _, hlen, _ => by simp at hlen
  | o :: l, p :: ps, k, hl, hq, hlen, h => by
    have h0 : ops[k]? = some o := by simpa using (hl 0).symm
    have hp : qs k = p := by simpa using hq 0 p rfl
    have hb : (ops[k]?).bind (·.dst) = o.dst := by rw [h0]; rfl
    have rest := fun (h' : wpPartsK P K0 p0 ops w Q (k + 1) l ps (facts ops qs vs (k + 1)) (lay ops (fixed qs vs) a (k + 1))) => parts_specK vs l ps (k + 1) (fun j => by have := hl (j + 1); simpa [Nat.add_assoc, Nat.add_comm 1 j] using this)
      (fun j q hj => by have := hq (j + 1) q (by simpa using hj); simpa [Nat.add_assoc, Nat.add_comm 1 j] using this) (by simpa using hlen) h'
    have key : wpPartsK P K0 p0 ops w Q (k + 1) l ps (facts ops qs vs (k + 1)) (lay ops (fixed qs vs) a (k + 1)) ∧
        (∀ R, p = .inr R → staysK K0 p0 k R) ∧
        ∀ W, K0 w W → (k = p0 → Below w.heap.size w W) → near ops o (facts ops qs vs k) W →
          (if Region.wanted o (yielded ops (lay ops (fixed qs vs) a k).tmps) then GivesK P (relOf K0 p0 k) o (lay ops (fixed qs vs) a k) W (holdsOf p) else holdsOf p undef W) := by
      cases p with
      | inl v =>
        obtain ⟨h1, h2⟩ := h
        have e : fixed qs vs k = v := by unfold fixed; rw [hp]
        refine ⟨by rw [facts, hp, lay, hb, e]; exact h2, (fun R hR => by cases hR), fun W hW hW2 hn => ?_⟩
        split
        · rename_i hw; rw [if_pos hw] at h1; exact h1 W hW hW2 hn
        · rename_i hw; rw [if_neg hw] at h1; exact h1
      | inr R =>
        obtain ⟨⟨h1, h3, h4⟩, h2⟩ := h
        have e : fixed qs vs k = vs k := by unfold fixed; rw [hp]
        refine ⟨?_, (fun R' hR => by cases hR; exact h1), fun W hW hW2 hn => by rw [if_pos h3]; exact h4 W hW hW2 hn⟩
        have := h2 (vs k)
        rw [facts, hp, lay, hb, e]
        cases hd : o.dst <;> simpa [hd] using this
    obtain ⟨r1, r2, r3⟩ := rest key.1
    have hl' : k + (p :: ps).length = k + 1 + ps.length := by simp; omega
    refine ⟨fun i h1 h2 => ?_, fun i R h1 h2 hR => ?_, ?_⟩
    · by_cases e : i = k
      · subst e; exact ⟨o, h0, by rw [hp]; exact key.2.2⟩
      · exact r1 i (by omega) (by omega)
    · by_cases e : i = k
      · subst e; exact key.2.1 R (by rw [← hp, hR])
      · exact r2 i R (by omega) (by omega) hR
    · rw [hl']; simpa using r3

/-- **A region that draws its order**, walked in the order of the text; operation p0 may write as K0 says. -/
theorem wp_region_seqK (K0 : World → World → Prop) (g : Goes K0) (p0 : Nat) {id : Nat} {l : List Oper} {Q : Exit → Act → World → Prop} {a : Act} {w : World} (ps : List Piece) (hm : P.follows .mixedOrders = true) (hB : partsB l.toArray ps.length = true)
    (h : wpPartsK P K0 p0 l.toArray w Q 0 l ps [] a) : (Code.region id l.toArray true).wp P Q a w := by
  have hn : ps.length ≤ l.length := by
    simp only [partsB, Bool.and_eq_true, decide_eq_true_eq] at hB
    simpa using hB.1.1.2
  have spec := fun vs => parts_specK (P := P) (K0 := K0) (p0 := p0) (ops := l.toArray) (w := w) (Q := Q) (a := a) (qs := fun i => (ps[i]?).getD (.inl undef)) vs l ps 0 (fun j => by simp) (fun j p hj => by simp [hj]) hn h
  refine wp_region_partsK (K0 := K0) (p0 := p0) g ps.length (fun i => (ps[i]?).getD (.inl undef)) hm hB ?_ ?_ ?_
  · intro j R hj
    by_cases hlt : j < ps.length
    · exact (spec (fun _ => undef)).2.1 j R (by omega) (by omega) hj
    · have : ps[j]? = none := by simp; omega
      simp [this] at hj
  · intro vs i hi
    unfold stepForK
    obtain ⟨o, ho, hs⟩ := (spec vs).1 i (by omega) (by omega)
    rw [ho]
    intro W hW hW2 hd
    have hs := hs W hW hW2 (near_of hd)
    have looks : ∀ t ∈ o.looksAt l.toArray, (lay l.toArray (fixed (fun i => (ps[i]?).getD (.inl undef)) vs) a i).tmps[t]? = (lay l.toArray vs a i).tmps[t]? := by
      intro t ht
      rw [lay_get, lay_get]
      unfold slotOf
      cases hc : lastW l.toArray (fun _ => true) t i with
      | none => rfl
      | some j =>
        obtain ⟨c1, _, c3, _⟩ := lastW_some hc
        simp only
        rw [fixed_eq (depsHold_get hd j t c1 c3 ht)]
    rw [wanted_congr looks] at hs
    simp only
    split
    · rename_i hw; rw [if_pos hw] at hs
      refine hs.of_eval (exec_congr (fun cs b => Region.noSelect_spec (by simp only [partsB, Bool.and_eq_true] at hB; exact hB.1.1.1.1.1) i o cs b ho) (fun t ht => (looks t ht).symm))
    · rename_i hw; rw [if_neg hw] at hs; exact hs
  · intro vs W hW hall
    have := (spec vs).2.2 W hW (every_of (by simpa using hall))
    have e : lay l.toArray (fixed (fun i => (ps[i]?).getD (.inl undef)) vs) a ps.length = lay l.toArray vs a ps.length := act_ext (fun t => by
      rw [lay_get, lay_get]
      unfold slotOf
      cases hc : lastW l.toArray (fun _ => true) t ps.length with
      | none => rfl
      | some j =>
        obtain ⟨c1, _, _, _⟩ := lastW_some hc
        simp only
        rw [fixed_eq (allHold_get hall j c1)]) (by rw [lay_defers, lay_defers])
    rw [Nat.zero_add, e] at this
    exact this

end

section
variable {P : Program} {ops : Array Oper} {w : World} {Q : Exit → Act → World → Prop} {o : Oper} {os : List Oper} {ps : List Piece} {G : List (Tmp × (World → Prop))} {a : Act} {K0 : World → World → Prop} {p0 k : Nat}

theorem gives_rel {R : Value → World → Prop} {W : World} (hk : k ≠ p0) (h : Gives P o a W R) : GivesK P (relOf K0 p0 k) o a W R := by
  unfold relOf; rw [if_neg hk]; exact h
theorem gives_relW {R : Value → World → Prop} {W : World} (hk : k = p0) (h : GivesK P K0 o a W R) : GivesK P (relOf K0 p0 k) o a W R := by
  unfold relOf; rw [if_pos hk]; exact h
/-- One operation, whose value is known. -/
theorem wpPartsK_det {v : Value} (hk : k ≠ p0) (hw : Region.wanted o (yielded ops a.tmps) = true) (h : ∀ W, K0 w W → near ops o G W → Gives P o a W (fun u _ => u = v))
    (hr : wpPartsK P K0 p0 ops w Q (k + 1) os ps G (a.put o.dst v)) : wpPartsK P K0 p0 ops w Q k (o :: os) (.inl v :: ps) G a := by
  unfold wpPartsK
  rw [if_pos hw]
  exact ⟨fun W h1 _ h2 => gives_rel hk (h W h1 h2), hr⟩
/-- One operation of whose value something is known. -/
theorem wpPartsK_any {d : Tmp} {R : Value → World → Prop} (hk : k ≠ p0) (hd : o.dst = some d) (hst : ∀ v W W', R v W → Below W.heap.size W W' → R v W') (hst2 : ∀ v W W', R v W → K0 W W' → R v W') (hw : Region.wanted o (yielded ops a.tmps) = true)
    (h : ∀ W, K0 w W → near ops o G W → Gives P o a W R) (hr : ∀ u, wpPartsK P K0 p0 ops w Q (k + 1) os ps ((d, R u) :: G) (a.put (some d) u)) : wpPartsK P K0 p0 ops w Q k (o :: os) (.inr R :: ps) G a := by
  unfold wpPartsK
  refine ⟨⟨⟨hst, fun _ => hst2⟩, hw, fun W h1 _ h2 => gives_rel hk (h W h1 h2)⟩, fun u => ?_⟩
  simp only [hd]
  exact hr u
/-- The one operation that writes. -/
theorem wpPartsK_writes {d : Tmp} {R : Value → World → Prop} (hk : k = p0) (hd : o.dst = some d) (hst : ∀ v W W', R v W → Below W.heap.size W W' → R v W') (hw : Region.wanted o (yielded ops a.tmps) = true)
    (h : ∀ W, Below w.heap.size w W → near ops o G W → GivesK P K0 o a W R) (hr : ∀ u, wpPartsK P K0 p0 ops w Q (k + 1) os ps ((d, R u) :: G) (a.put (some d) u)) : wpPartsK P K0 p0 ops w Q k (o :: os) (.inr R :: ps) G a := by
  unfold wpPartsK
  refine ⟨⟨⟨hst, fun hn => absurd hk hn⟩, hw, fun W _ h0 h2 => gives_relW hk (h W (h0 hk) h2)⟩, fun u => ?_⟩
  simp only [hd]
  exact hr u
theorem wpPartsK_end (h : ∀ W, K0 w W → every G W → wpList P ops Q os a W) : wpPartsK P K0 p0 ops w Q k os [] G a := by
  cases os <;> (unfold wpPartsK; exact h)
end
end Go.Dav

namespace Go.Dav
set_option linter.unusedVariables false
set_option linter.unusedSimpArgs false
open Go Go.RowKit
/-- Cells, one behind the other. -/
def FlatAt (W : World) (a : Option Addr) (xs : List Value) : Prop := ∀ j u, xs[j]? = some u → ∃ b o, a = some ⟨b, o, none⟩ ∧ b < W.heap.size ∧ W.cell? ⟨b, o + j, none⟩ = some u
theorem FlatAt.ext {W W' : World} {a : Option Addr} {xs : List Value} (h : FlatAt W a xs) (hb : Below W.heap.size W W') : FlatAt W' a xs := fun j u hu => by
  obtain ⟨b, o, h1, h2, h3⟩ := h j u hu
  exact ⟨b, o, h1, Nat.lt_of_lt_of_le h2 hb.size, (hb.cell (p := ⟨b, o + j, none⟩) h2).trans h3⟩
theorem own_sliceW {w : World} {base e size n : Nat} {v : Value} {xs : List Value} (h : w.ownsRow base e size v n xs) : ∃ a c, v = .slice a n c := by
  rcases h.2 with ⟨h1, h2⟩ | ⟨g, cap, cur, h1, _⟩
  · exact ⟨none, 0, by rw [h1, h2]⟩
  · exact ⟨_, cap, h1⟩
theorem goes_onlyW (p : Nat → Prop) : Goes (OnlyS p) := ⟨fun _ _ h => OnlyS.of_below h, fun _ _ _ h k => ⟨k.os.trans h.os, k.tape.trans h.tape, k.output.trans h.output, Nat.le_trans h.size k.size, fun i h1 h2 => (k.block i (Nat.lt_of_lt_of_le h1 h.size) h2).trans (h.block i h1 h2)⟩⟩
/-- A slice in a block of its own. -/
def SlOwn (B n : Nat) (cs : List Value) (t : TypeId) (v : Value) (W : World) : Prop := ∃ g, v = .slice (some ⟨g, 0, none⟩) n n ∧ B ≤ g ∧ Blk W g cs t
theorem SlOwn.later {B n : Nat} {cs : List Value} {t : TypeId} : ∀ v W W', SlOwn B n cs t v W → Below W.heap.size W W' → SlOwn B n cs t v W' := fun _ _ _ ⟨g, h1, h2, h3⟩ hb => ⟨g, h1, h2, h3.ext hb⟩
theorem SlOwn.only {B n : Nat} {cs : List Value} {t : TypeId} {p : Nat → Prop} (hp : ∀ b, p b → b < B) : ∀ v W W', SlOwn B n cs t v W → OnlyS p W W' → SlOwn B n cs t v W' := fun _ _ _ ⟨g, h1, h2, h3⟩ k => ⟨g, h1, h2, h3.onlyS k fun hg => by have := hp g hg; omega⟩
/-- The block of a row of one's own. -/
def OwnW (v : Value) (b : Nat) : Prop := v.ownBlock = some b
theorem OwnW.of_grown {W W' : World} {v : Value} (h : W.grownBy W' v.ownBlock) : OnlyS (OwnW v) W W' := ⟨h.os, h.tape, h.output, h.size, fun k hk hn => h.block k hk fun e => hn e.symm⟩
theorem own_apart {base q n size : Nat} {e t : TypeId} {xs cs : List Value} {v : Value} {W : World} (h : W.ownsRow base e size v n xs) (hq : Blk W q cs t) (ht : t ≠ e) : ¬ OwnW v q := by
  rcases h.2 with ⟨rfl, _⟩ | ⟨g, cap, cur, rfl, _, hg, _⟩
  · intro hb; cases hb
  · intro hb
    obtain rfl : g = q := by simpa [OwnW, Value.ownBlock] using hb
    unfold Blk at hq
    rw [hg] at hq
    cases hq
    exact ht rfl
theorem own_apart2 {base base2 n n2 size size2 : Nat} {e t : TypeId} {xs ys : List Value} {v u : Value} {W : World} (h : W.ownsRow base e size v n xs) (h2 : W.ownsRow base2 t size2 u n2 ys) (ht : t ≠ e) : u.ownBlock = none ∨ u.ownBlock ≠ v.ownBlock := by
  cases hu : u.ownBlock with
  | none => exact .inl rfl
  | some k =>
    refine .inr fun e1 => ?_
    rcases h2.2 with ⟨rfl, _⟩ | ⟨g, cap, cur, rfl, _, hg, _⟩
    · cases hu
    · obtain rfl : g = k := by simpa [Value.ownBlock] using hu
      rcases h.2 with ⟨rfl, _⟩ | ⟨g', cap', cur', rfl, _, hg', _⟩
      · cases e1
      · obtain rfl : g = g' := by simpa [Value.ownBlock] using e1
        rw [hg] at hg'
        cases hg'
        exact ht rfl
theorem ownsRow_onlyS {p : Nat → Prop} {base n size : Nat} {e : TypeId} {xs : List Value} {v : Value} {W W' : World} (h : W.ownsRow base e size v n xs) (k : OnlyS p W W') (hp : ∀ b, v.ownBlock = some b → ¬ p b) : W'.ownsRow base e size v n xs := by
  refine ⟨h.1, ?_⟩
  rcases h.2 with hn | ⟨g, cap, cur, rfl, hb, hg, rest⟩
  · exact .inl hn
  · refine .inr ⟨g, cap, cur, rfl, hb, ?_, rest⟩
    rw [k.block g (Array.getElem?_eq_some_iff.1 hg).1 (hp g rfl)]
    exact hg
theorem ownsRow_below {base n size : Nat} {e : TypeId} {xs : List Value} {v : Value} {W W' : World} (h : W.ownsRow base e size v n xs) (hb : Below W.heap.size W W') : W'.ownsRow base e size v n xs := by
  refine ⟨h.1, ?_⟩
  rcases h.2 with hn | ⟨g, cap, cur, rfl, h1, hg, rest⟩
  · exact .inl hn
  · refine .inr ⟨g, cap, cur, rfl, h1, ?_, rest⟩
    rw [hb.block g (Array.getElem?_eq_some_iff.1 hg).1]
    exact hg
theorem givesK_own {P : Program} {o : Oper} {a : Act} {W : World} {s x : Operand} {t e : TypeId} {base m c n size bytes : Nat} {v : Value} {xs news : List Value} {ad : Addr} {i : TypeInfo} {z : Value} (ho : o.op = .call { callee := .builtin .append, args := #[s, x], argTypes := #[t, t] })
    (ht : P.underlying t = some (.slice e)) (hi : P.info? e = some i) (hz : i.zero = some z) (hsize : i.size = size) (hby : i.bytes = bytes) (hzs : z.cells.size = size) (hsz : 0 < size)
    (hs : a.eval s = v) (hx : a.eval x = .slice (some ad) m c) (hown : W.ownsRow base e size v n xs) (hl : news.length = m * size) (hnews : ∀ j u, news[j]? = some u → W.cell? (ad.add j) = some u) (h1 : ∀ u ∈ news, u.oneCell' = true)
    (h63 : n + m ≤ maxLen) (hbytes : (n + m) * bytes ≤ 140737488355328) (hbase : base ≤ W.heap.size) : GivesK P (OnlyS (OwnW v)) o a W (fun v' W' => W'.ownsRow base e size v' (n + m) (xs ++ news)) := by
  obtain ⟨v', w', hr, h2, h3, _⟩ := run_append_own (P := P) W base t o.type e i z size bytes ht hi hz hsize hby hzs hsz v n xs hown ad m c news hl hnews h1 h63 hbytes hbase
  unfold GivesK
  rw [run_append_op ho hs hx hr]
  exact ⟨OwnW.of_grown h3, h2⟩
end Go.Dav
namespace Go.Proofs.YtmcmknndhppljaaDoor
set_option linter.unusedVariables false
set_option linter.unusedSimpArgs false
open Go.RowKit Go.Dav
attribute [local go_sem] Gives ite_val ite_val_true

theorem Tryd_infoPair : (Tryd.prog.info? 56).map (fun i => (i.zero, i.size, i.bytes)) = some (some (.agg #[.string ⟨#[]⟩, .int .i64 0, .int .i64 0, .string ⟨#[]⟩, .slice none 0 0, .slice none 0 0]), 6, 96) := by kernel_rfl
theorem Tryd_infoValue : (Tryd.prog.info? 39).map (fun i => (i.zero, i.size, i.bytes)) = some (some (.agg #[.int .i64 0, .int .i64 0, .string ⟨#[]⟩, .slice none 0 0, .slice none 0 0]), 5, 80) := by kernel_rfl
theorem Tryd_infoString : (Tryd.prog.info? 9).map (fun i => (i.zero, i.size, i.bytes)) = some (some (.string ⟨#[]⟩), 1, 16) := by kernel_rfl
theorem Tryd_eqNilP (w : World) (a : Option Addr) (n c : Nat) : (binOp .eql 48 (.slice a n c) (.slice none 0 0)).run Tryd.prog w = .ok (.bool a.isNone) w := Lib.run_eql_slice_nil w _ _ a n c 0 0 Tryd.underlying48
theorem Tryd_eqNilV (w : World) (a : Option Addr) (n c : Nat) : (binOp .eql 36 (.slice a n c) (.slice none 0 0)).run Tryd.prog w = .ok (.bool a.isNone) w := Lib.run_eql_slice_nil w _ _ a n c 0 0 Tryd.underlying36
set_option maxRecDepth 8000 in
set_option maxHeartbeats 4000000 in
theorem Tryd_clonePairs (a : Option Addr) (n c : Nat) (xs : List Value) (w : World) (hlen : xs.length = n * 6) (hone : ∀ u ∈ xs, u.oneCell' = true) (hat : FlatAt w a xs) (hnil : a = none → c = 0) (hnc : n ≤ c) (hn : n ≤ 1000000) :
    Calls Tryd.prog 54 #[.slice a n c] w fun e w' => ∃ v, e = .returned v ∧ w'.ownsRow w.heap.size 56 6 v n xs ∧ Below w.heap.size w w' := by
  cases a with
  | none =>
    have h0 := hnil rfl
    obtain rfl : n = 0 := by omega
    subst h0
    have hx0 : xs = [] := List.length_eq_zero_iff.1 (by omega)
    subst hx0
    clear hat hone hlen
    have knil := @Tryd_eqNilP
    go_enter Tryd.func54, Tryd.ntmps54
    go_wp2
    go_ret
    exact ⟨_, rfl, World.ownsRow_nil _ _ _ _, (by repeat (first | (with_reducible exact Below.refl _ _) | (with_reducible exact Below.refl _ _) | (with_reducible refine Below.setCell ?_ (by first | omega | (simp; done) | (simp; omega)) _) | (with_reducible refine Below.alloc ?_ (by first | omega | (simp; done) | (simp; omega)) _) | (with_reducible refine Below.drew ?_) | (with_reducible refine below_drewN ?_ _)))⟩
  | some ad =>
    have hsrc : ∀ j u, xs[j]? = some u → (w.alloc (.cells #[] 56)).cell? (ad.add j) = some u := fun j u hu => by
      obtain ⟨b, o, e, hlt, hcell⟩ := hat j u hu
      cases e
      rw [Addr.add_mid, (Below.heap_alloc w _ b hlt |> fun hb => World.cell?_of_block (a := ⟨b, o + j, none⟩) hb)]
      exact hcell
    have HSRC := Lib.hid hsrc
    obtain ⟨i0, hi0, hz0, hz1, hz2⟩ := info_parts Tryd_infoPair
    have hbe : Below w.heap.size w (w.alloc (.cells #[] 56)) := (Below.refl _ _).alloc (Nat.le_refl _) _
    have HOW := Lib.hid (World.ownsRow_made (base := w.heap.size) (e := 56) (size := 6) w #[] 0 (Nat.le_refl _) (by unfold maxLen; omega) (by simp))
    have H1 := Lib.hid hone
    have HL := Lib.hid hlen
    clear hat hone hsrc hlen
    have knil := @Tryd_eqNilP
    go_enter Tryd.func54, Tryd.ntmps54
    go_wp2_with (at_builtin; refine wpList_append_own _ rfl (.tmp 5) (.tmp 6) 48 rfl w.heap.size 56 i0 _ 6 96 Tryd.underlying48 hi0 hz0 hz1 hz2 rfl (by decide) _ 0 [] rfl HOW.out ad n c xs rfl HL.out HSRC.out H1.out (by unfold maxLen; omega) (by omega) (by simp) ?_; intro v' w6 hown6 hgrow _)
    rw [Nat.zero_add, List.nil_append] at hown6
    have hbel : Below w.heap.size w w6 := hbe.grown hgrow (by simp) (fun k hk => (HOW.out.lt k hk).1)
    have HO6 := Lib.hid hown6
    have HB6 := Lib.hid hbel
    clear hown6 hgrow hbel hi0 hz0 hz1 hz2
    go_wp2
    go_ret
    exact ⟨_, rfl, HO6.out, HB6.out⟩
set_option maxRecDepth 8000 in
set_option maxHeartbeats 4000000 in
theorem Tryd_cloneValues (a : Option Addr) (n c : Nat) (xs : List Value) (w : World) (hlen : xs.length = n * 5) (hone : ∀ u ∈ xs, u.oneCell' = true) (hat : FlatAt w a xs) (hnil : a = none → c = 0) (hnc : n ≤ c) (hn : n ≤ 1000000) :
    Calls Tryd.prog 58 #[.slice a n c] w fun e w' => ∃ v, e = .returned v ∧ w'.ownsRow w.heap.size 39 5 v n xs ∧ Below w.heap.size w w' := by
  cases a with
  | none =>
    have h0 := hnil rfl
    obtain rfl : n = 0 := by omega
    subst h0
    have hx0 : xs = [] := List.length_eq_zero_iff.1 (by omega)
    subst hx0
    clear hat hone hlen
    have knil := @Tryd_eqNilV
    go_enter Tryd.func58, Tryd.ntmps58
    go_wp2
    go_ret
    exact ⟨_, rfl, World.ownsRow_nil _ _ _ _, (by repeat (first | (with_reducible exact Below.refl _ _) | (with_reducible exact Below.refl _ _) | (with_reducible refine Below.setCell ?_ (by first | omega | (simp; done) | (simp; omega)) _) | (with_reducible refine Below.alloc ?_ (by first | omega | (simp; done) | (simp; omega)) _) | (with_reducible refine Below.drew ?_) | (with_reducible refine below_drewN ?_ _)))⟩
  | some ad =>
    have hsrc : ∀ j u, xs[j]? = some u → (w.alloc (.cells #[] 39)).cell? (ad.add j) = some u := fun j u hu => by
      obtain ⟨b, o, e, hlt, hcell⟩ := hat j u hu
      cases e
      rw [Addr.add_mid, (Below.heap_alloc w _ b hlt |> fun hb => World.cell?_of_block (a := ⟨b, o + j, none⟩) hb)]
      exact hcell
    have HSRC := Lib.hid hsrc
    obtain ⟨i0, hi0, hz0, hz1, hz2⟩ := info_parts Tryd_infoValue
    have hbe : Below w.heap.size w (w.alloc (.cells #[] 39)) := (Below.refl _ _).alloc (Nat.le_refl _) _
    have HOW := Lib.hid (World.ownsRow_made (base := w.heap.size) (e := 39) (size := 5) w #[] 0 (Nat.le_refl _) (by unfold maxLen; omega) (by simp))
    have H1 := Lib.hid hone
    have HL := Lib.hid hlen
    clear hat hone hsrc hlen
    have knil := @Tryd_eqNilV
    go_enter Tryd.func58, Tryd.ntmps58
    go_wp2_with (at_builtin; refine wpList_append_own _ rfl (.tmp 5) (.tmp 6) 36 rfl w.heap.size 39 i0 _ 5 80 Tryd.underlying36 hi0 hz0 hz1 hz2 rfl (by decide) _ 0 [] rfl HOW.out ad n c xs rfl HL.out HSRC.out H1.out (by unfold maxLen; omega) (by omega) (by simp) ?_; intro v' w6 hown6 hgrow _)
    rw [Nat.zero_add, List.nil_append] at hown6
    have hbel : Below w.heap.size w w6 := hbe.grown hgrow (by simp) (fun k hk => (HOW.out.lt k hk).1)
    have HO6 := Lib.hid hown6
    have HB6 := Lib.hid hbel
    clear hown6 hgrow hbel hi0 hz0 hz1 hz2
    go_wp2
    go_ret
    exact ⟨_, rfl, HO6.out, HB6.out⟩
theorem Tryd_pairs_own {w : World} {B n : Nat} {v : Value} {l : List PairE} (h : w.ownsRow B 56 6 v n (flatE l)) : (v = .slice none 0 0 ∧ n = 0 ∧ l = []) ∨ ∃ g c, v = .slice (some ⟨g, 0, none⟩) n c ∧ B ≤ g ∧ n ≤ c ∧ c ≤ maxLen ∧ l.length = n ∧ PairsAt w g l 56 := by
  have hlen := h.1
  rw [flatE_len] at hlen
  have hln : l.length = n := by omega
  rcases h.2 with ⟨rfl, rfl⟩ | ⟨g, cap, cur, rfl, hb, hg, hnc, hcm, hcs, htake⟩
  · exact .inl ⟨rfl, rfl, List.length_eq_zero_iff.1 hln⟩
  · refine .inr ⟨g, cap, rfl, hb, hnc, hcm, hln, cur.toList.drop (n * 6), ?_⟩
    unfold Blk
    rw [hg, ← htake, List.take_append_drop]
end Go.Proofs.YtmcmknndhppljaaDoor
