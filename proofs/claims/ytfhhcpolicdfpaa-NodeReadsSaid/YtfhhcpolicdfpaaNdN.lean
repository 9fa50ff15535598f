/-
  The reference of layer 14: SameItem, Same, walked.
-/
import Derived.Test.YtfhhcpolicdfpaaNdI
namespace Go.Dav
set_option linter.unusedVariables false
set_option linter.unusedSimpArgs false
open Go Go.RowKit
def sameIs : List ItemD → List ItemD → Bool
  | [], [] => true
  | x :: l, y :: m => sameItem x y && sameIs l m
  | _, _ => false
theorem sameIs_len : ∀ {l m : List ItemD}, l.length ≠ m.length → sameIs l m = false
  | [], [], h => absurd rfl h
  | [], _ :: _, _ => rfl
  | _ :: _, [], _ => rfl
  | x :: l, y :: m, h => by
    have := sameIs_len (l := l) (m := m) (by simpa using h)
    unfold sameIs; rw [this, Bool.and_false]
theorem sameIs_drop {l m : List ItemD} {k : Nat} {x y : ItemD} (hx : l[k]? = some x) (hy : m[k]? = some y) : sameIs (l.drop k) (m.drop k) = (sameItem x y && sameIs (l.drop (k + 1)) (m.drop (k + 1))) := by
  obtain ⟨h1, h2⟩ := List.getElem?_eq_some_iff.1 hx
  obtain ⟨h3, h4⟩ := List.getElem?_eq_some_iff.1 hy
  rw [List.drop_eq_getElem_cons h1, List.drop_eq_getElem_cons h3, h2, h4]
  rfl
def sameKs : List KidD → List KidD → Bool
  | [], [] => true
  | x :: l, y :: m => sameKid x y && sameKs l m
  | _, _ => false
theorem sameKs_len : ∀ {l m : List KidD}, l.length ≠ m.length → sameKs l m = false
  | [], [], h => absurd rfl h
  | [], _ :: _, _ => rfl
  | _ :: _, [], _ => rfl
  | x :: l, y :: m, h => by
    have := sameKs_len (l := l) (m := m) (by simpa using h)
    unfold sameKs; rw [this, Bool.and_false]
theorem sameKs_drop {l m : List KidD} {k : Nat} {x y : KidD} (hx : l[k]? = some x) (hy : m[k]? = some y) : sameKs (l.drop k) (m.drop k) = (sameKid x y && sameKs (l.drop (k + 1)) (m.drop (k + 1))) := by
  obtain ⟨h1, h2⟩ := List.getElem?_eq_some_iff.1 hx
  obtain ⟨h3, h4⟩ := List.getElem?_eq_some_iff.1 hy
  rw [List.drop_eq_getElem_cons h1, List.drop_eq_getElem_cons h3, h2, h4]
  rfl
theorem ite_red (p1 p2 p3 p4 p5 p6 : Prop) [Decidable p1] [Decidable p2] [Decidable p3] [Decidable p4] [Decidable p5] [Decidable p6] (W : World) :
    (if p1 then if p2 then if p3 then if p4 then if p5 then if p6 then Result.ok (Next.value (.bool false)) W else Result.ok (Next.value (.bool true)) W else Result.ok (Next.value (.bool true)) W else Result.ok (Next.value (.bool true)) W else Result.ok (Next.value (.bool true)) W else Result.ok (Next.value (.bool true)) W else Result.ok (Next.value (.bool true)) W)
      = Result.ok (Next.value (.bool (!(decide p1 && (decide p2 && (decide p3 && (decide p4 && (decide p5 && decide p6)))))))) W := by
  by_cases h1 : p1 <;> by_cases h2 : p2 <;> by_cases h3 : p3 <;> by_cases h4 : p4 <;> by_cases h5 : p5 <;> by_cases h6 : p6 <;> simp [h1, h2, h3, h4, h5, h6]
/-- What the reference's Same answers. -/
def sameR (a b : NodeD) : Bool := decide (a.leaf = b.leaf) && (sameIs a.items b.items && sameKs a.kids b.kids)
end Go.Dav
namespace Go.Proofs.Ytfhhcpolicdfpaa
set_option linter.unusedVariables false
set_option linter.unusedSimpArgs false
open Go.RowKit Go.Dav
attribute [local go_sem] Gives ite_val ite_val_true

set_option maxRecDepth 8000 in
set_option maxHeartbeats 4000000 in
theorem Try_rSameItem {S T : Nat → Prop} {x y : ItemD} {u v : Value} {w : World} (hx : TryItemU w S u x) (hy : TryItemU w T v y) :
    Calls Try.prog 47 #[u, v] w fun e w' => e = .returned (.bool (sameItem x y)) ∧ Below w.heap.size w w' := by
  obtain ⟨ka, kl, kc, va, vl, vc, rfl, h2, h3, h4⟩ := hx
  obtain ⟨la, ll, lc, za, zl, zc, rfl, g2, g3, g4⟩ := hy
  have hb0 : Below w.heap.size w ((w.alloc (.cells #[.slice ka kl kc, .slice va vl vc, .bool x.int, .int .i64 x.n] 56)).alloc (.cells #[.slice la ll lc, .slice za zl zc, .bool y.int, .int .i64 y.n] 56)) := (by repeat (first | (with_reducible exact Below.refl _ _) | (with_reducible exact Below.refl _ _) | (with_reducible refine Below.setCell ?_ (by first | omega | (simp; done) | (simp; omega)) _) | (with_reducible refine Below.alloc ?_ (by first | omega | (simp; done) | (simp; omega)) _) | (with_reducible refine Below.drew ?_) | (with_reducible refine below_drewN ?_ _)))
  have k1 := conv_bytes (h2.ext hb0).at_ 22 9 5 Try.underlying22 Try.underlying5 Try.underlying9
  have k2 := conv_bytes (h3.ext hb0).at_ 22 9 5 Try.underlying22 Try.underlying5 Try.underlying9
  have k3 := conv_bytes (g2.ext hb0).at_ 22 9 5 Try.underlying22 Try.underlying5 Try.underlying9
  have k4 := conv_bytes (g3.ext hb0).at_ 22 9 5 Try.underlying22 Try.underlying5 Try.underlying9
  obtain ⟨p1, hp1⟩ : ∃ p, decide (x.key = y.key) = p := ⟨_, rfl⟩
  obtain ⟨p2, hp2⟩ : ∃ p, decide (x.value = y.value) = p := ⟨_, rfl⟩
  have q1 : (x.key == y.key) = p1 := by rw [list_beq, hp1]
  have q2 : (x.value == y.value) = p2 := by rw [list_beq, hp2]
  have HV := Lib.hid (show sameItem x y = (p1 && (p2 && (decide (x.int = y.int) && decide (x.n = y.n)))) by unfold sameItem; rw [hp1, hp2])
  clear h2 h3 h4 g2 g3 g4 hp1 hp2 hb0
  obtain ⟨i1, hi1⟩ : ∃ i, x.int = i := ⟨_, rfl⟩
  obtain ⟨i2, hi2⟩ : ∃ i, y.int = i := ⟨_, rfl⟩
  rw [hi1, hi2] at HV
  rw [hi1, hi2] at k1 k2 k3 k4
  rw [hi1, hi2]
  clear hi1 hi2
  cases p1 <;> cases p2 <;> cases i1 <;> cases i2
  all_goals
    go_enter Try.func47, Try.ntmps47
    go_wp2
    go_ret
    exact ⟨ret_bool (by rw [HV.out]; first | rfl | (simp; done) | (simp <;> (rw [Bool.eq_iff_iff]; simp))), (by repeat (first | (with_reducible exact Below.refl _ _) | (with_reducible exact Below.refl _ _) | (with_reducible refine Below.setCell ?_ (by first | omega | (simp; done) | (simp; omega)) _) | (with_reducible refine Below.alloc ?_ (by first | omega | (simp; done) | (simp; omega)) _) | (with_reducible refine Below.drew ?_) | (with_reducible refine below_drewN ?_ _)))⟩

def TryRSRel (w : World) (n : Nat) (c1 c2 : List Value) (F : Nat → Bool) (ix : Value) (wr : World) : Prop :=
  ∃ k : Nat, k ≤ n ∧ ix = .int .i64 k ∧ F 0 = F k ∧ Blk wr w.heap.size c1 28 ∧ Blk wr (w.heap.size + 1) c2 28 ∧ Below w.heap.size w wr
set_option maxRecDepth 8000 in
set_option maxHeartbeats 16000000 in
theorem Try_rSame (A B : NodeD) (ia ka ja la : Option Addr) (il ic kl kc jl jc ll lc : Nat) (S T : Nat → Prop) (w : World) (hA : NodeS w S ia il ic ka kl kc A) (hB : NodeS w T ja jl jc la ll lc B) :
    Calls Try.prog 19 #[.agg #[.bool A.leaf, .slice ia il ic, .slice ka kl kc], .agg #[.bool B.leaf, .slice ja jl jc, .slice la ll lc]] w fun e w' => e = .returned (.bool (sameR A B)) ∧ Below w.heap.size w w' := by
  obtain ⟨f, hf⟩ : ∃ f, A.leaf = f := ⟨_, rfl⟩
  obtain ⟨g, hg⟩ : ∃ g, B.leaf = g := ⟨_, rfl⟩
  rw [hf, hg]
  have hb0 : Below w.heap.size w ((w.alloc (.cells #[.bool f, .slice ia il ic, .slice ka kl kc] 28)).alloc (.cells #[.bool g, .slice ja jl jc, .slice la ll lc] 28)) := (by repeat (first | (with_reducible exact Below.refl _ _) | (with_reducible exact Below.refl _ _) | (with_reducible refine Below.setCell ?_ (by first | omega | (simp; done) | (simp; omega)) _) | (with_reducible refine Below.alloc ?_ (by first | omega | (simp; done) | (simp; omega)) _) | (with_reducible refine Below.drew ?_) | (with_reducible refine below_drewN ?_ _)))
  have hq1 := (Blk.new w [.bool f, .slice ia il ic, .slice ka kl kc] 28).alloc (.cells #[.bool g, .slice ja jl jc, .slice la ll lc] 28)
  have hq2 := Blk.new' (w.alloc (.cells #[.bool f, .slice ia il ic, .slice ka kl kc] 28)) [.bool g, .slice ja jl jc, .slice la ll lc] 28 (p := w.heap.size + 1) (by simp)
  have e1 := hA.items.hlen
  have e2 := hA.kids.hlen
  have e3 := hB.items.hlen
  have e4 := hB.kids.hlen
  have b1 : (il : Int) ≤ 140737488355328 := by have := hA.items.hfew; omega
  have b2 : (kl : Int) ≤ 140737488355328 := by have := hA.kids.hfew; omega
  have b3 : (jl : Int) ≤ 140737488355328 := by have := hB.items.hfew; omega
  have b4 : (ll : Int) ≤ 140737488355328 := by have := hB.kids.hfew; omega
  have HA := Lib.hid hA
  have HBN := Lib.hid hB
  have Q1 := Lib.hid hq1
  have Q2 := Lib.hid hq2
  have HB0 := Lib.hid hb0
  have E1 := Lib.hid e1
  have E2 := Lib.hid e2
  have E3 := Lib.hid e3
  have E4 := Lib.hid e4
  have HV := Lib.hid (show sameR A B = (decide (f = g) && (sameIs A.items B.items && sameKs A.kids B.kids)) by unfold sameR; rw [hf, hg])
  clear hA hB hq1 hq2 hb0 e1 e2 e3 e4 hf hg
  by_cases hfg : f = g
  rotate_left
  · have HW := Lib.hid (show sameR A B = false by rw [HV.out, decide_eq_false hfg, Bool.false_and])
    cases f <;> cases g
    all_goals try exact absurd rfl hfg
    all_goals
      clear hfg
      go_enter Try.func19, Try.ntmps19
      go_wp2
      go_ret
      exact ⟨ret_bool HW.out.symm, HB0.out⟩
  subst hfg
  rw [decide_eq_true rfl, Bool.true_and] at HV
  by_cases h1 : il = jl
  rotate_left
  · have HW := Lib.hid (show sameR A B = false by rw [HV.out, sameIs_len (by rw [E1.out, E3.out]; exact h1), Bool.false_and])
    have hn : ((il : Int) != (jl : Int)) = true := by rw [bne_iff_ne]; omega
    cases f
    all_goals
      go_enter Try.func19, Try.ntmps19
      go_wp2
      go_ret
      exact ⟨ret_bool HW.out.symm, HB0.out⟩
  subst h1
  by_cases h2 : kl = ll
  rotate_left
  · have HW := Lib.hid (show sameR A B = false by rw [HV.out, sameKs_len (by rw [E2.out, E4.out]; exact h2), Bool.and_false])
    have hn : ((kl : Int) != (ll : Int)) = true := by rw [bne_iff_ne]; omega
    have hn2 : ((il : Int) != (il : Int)) = false := by simp
    cases f
    all_goals
      go_enter Try.func19, Try.ntmps19
      go_wp2
      go_ret
      exact ⟨ret_bool HW.out.symm, HB0.out⟩
  subst h2
  have hn1 : ((il : Int) != (il : Int)) = false := by simp
  have hn2 : ((kl : Int) != (kl : Int)) = false := by simp
  have hff : (f != f) = false := by simp
  cases f with
  | true =>
    go_enter Try.func19, Try.ntmps19
    go_wp2_with fail
    go_loopw [5] (fun ix wr => TryRSRel w il [.bool true, .slice ia il ic, .slice ka kl kc] [.bool true, .slice ja il jc, .slice la kl lc] (fun k => sameIs (A.items.drop k) (B.items.drop k)) ix wr) (fun ix _ => il - (intOf ix).toNat)
    case atStart => exact ⟨0, Nat.zero_le _, rfl, rfl, Q1.out, Q2.out, HB0.out⟩
    case round =>
      obtain ⟨k, hk, rfl, hst, hx1, hx2, hbel⟩ := hrel
      have HST := Lib.hid hst
      have HX1 := Lib.hid hx1
      have HX2 := Lib.hid hx2
      have HB := Lib.hid hbel
      have c1 := hx1.cells
      have c2 := hx2.cells
      have l1 := hx1.lt
      have l2 := hx2.lt
      clear hst hx1 hx2
      by_cases hlt : k < il
      · obtain ⟨x, hx⟩ : ∃ x, A.items[k]? = some x := ⟨_, List.getElem?_eq_getElem (by have := E1.out; omega)⟩
        obtain ⟨y, hy⟩ : ∃ y, B.items[k]? = some y := ⟨_, List.getElem?_eq_getElem (by have := E3.out; omega)⟩
        obtain ⟨bx, ox, xa, xl, xc, va, vl, vc, rfl, hb1, hs1, d0, d1, d2, d3, h4, h5, h6⟩ := (HA.out.ext HB.out).items.hat k x hx
        obtain ⟨by_, oy, ya, yl, yc, za, zl, zc, rfl, hb2, hs2, f0, f1, f2, f3, g4, g5, g6⟩ := (HBN.out.ext HB.out).items.hat k y hy
        have HU := Lib.hid (show TryItemU wr S (.agg #[.slice xa xl xc, .slice va vl vc, .bool x.int, .int .i64 x.n]) x from ⟨_, _, _, _, _, _, rfl, h4, h5, h6⟩)
        have HW := Lib.hid (show TryItemU wr T (.agg #[.slice ya yl yc, .slice za zl zc, .bool y.int, .int .i64 y.n]) y from ⟨_, _, _, _, _, _, rfl, g4, g5, g6⟩)
        have HSD := Lib.hid (sameIs_drop hx hy)
        have hlt' : (k : Int) < (il : Int) := by omega
        have HLT := Lib.hid hlt
        have hk0 : ¬ (k : Int) < 0 := by omega
        clear hx hy h4 h5 h6 g4 g5 g6 hs1 hs2 hk hlt hbel
        obtain ⟨q, hq⟩ : ∃ q, sameItem x y = q := ⟨_, rfl⟩
        have HQ := Lib.hid hq
        clear hq
        cases q with
        | true =>
          go_wp2_with fail
          refine' wp_region_seq [.inl _, .inl _, .inl _, .inl _, .inl _, .inl _, .inl _, .inl _, .inl _, .inl _, .inl _, .inl _] (by kernel_rfl) (by kernel_rfl) ?main1
          case main1 =>
            refine wpParts_det (by rfl) (fun W hE hN => ?_) ?_
            · go_simp; refine ⟨Below.refl _ _, ?_⟩; rfl
            simp only [Act.put, List.setIfInBounds_toArray, List.set_cons_zero, List.set_cons_succ]
            refine wpParts_det (by rfl) (fun W hE hN => ?_) ?_
            · have hc := fun b o h => hE.cell (p := ⟨b, o, none⟩) h
              go_simp; refine ⟨Below.refl _ _, ?_⟩; rfl
            simp only [Act.put, List.setIfInBounds_toArray, List.set_cons_zero, List.set_cons_succ]
            refine wpParts_det (by rfl) (fun W hE hN => ?_) ?_
            · go_simp; refine ⟨Below.refl _ _, ?_⟩; rfl
            simp only [Act.put, List.setIfInBounds_toArray, List.set_cons_zero, List.set_cons_succ]
            refine wpParts_det (by rfl) (fun W hE hN => ?_) ?_
            · go_simp; refine ⟨Below.refl _ _, ?_⟩; rfl
            simp only [Act.put, List.setIfInBounds_toArray, List.set_cons_zero, List.set_cons_succ]
            refine wpParts_det (by rfl) (fun W hE hN => ?_) ?_
            · have hc := fun b o h => hE.cell (p := ⟨b, o, none⟩) h
              go_simp; refine ⟨Below.refl _ _, ?_⟩; rfl
            simp only [Act.put, List.setIfInBounds_toArray, List.set_cons_zero, List.set_cons_succ]
            refine wpParts_det (by rfl) (fun W hE hN => ?_) ?_
            · go_simp; refine ⟨Below.refl _ _, ?_⟩; rfl
            simp only [Act.put, List.setIfInBounds_toArray, List.set_cons_zero, List.set_cons_succ]
            refine wpParts_det (by rfl) (fun W hE hN => ?_) ?_
            · have hc := fun b o h => hE.cell (p := ⟨b, o, none⟩) h
              go_simp; refine ⟨Below.refl _ _, ?_⟩; rfl
            simp only [Act.put, List.setIfInBounds_toArray, List.set_cons_zero, List.set_cons_succ]
            refine wpParts_det (by rfl) (fun W hE hN => ?_) ?_
            · go_simp; refine ⟨Below.refl _ _, ?_⟩; rfl
            simp only [Act.put, List.setIfInBounds_toArray, List.set_cons_zero, List.set_cons_succ]
            refine wpParts_det (by rfl) (fun W hE hN => ?_) ?_
            · go_simp; refine ⟨Below.refl _ _, ?_⟩; rfl
            simp only [Act.put, List.setIfInBounds_toArray, List.set_cons_zero, List.set_cons_succ]
            refine wpParts_det (by rfl) (fun W hE hN => ?_) ?_
            · have hc := fun b o h => hE.cell (p := ⟨b, o, none⟩) h
              go_simp; refine ⟨Below.refl _ _, ?_⟩; rfl
            simp only [Act.put, List.setIfInBounds_toArray, List.set_cons_zero, List.set_cons_succ]
            refine wpParts_det (by rfl) (fun W hE hN => ?_) ?_
            · go_simp; refine ⟨Below.refl _ _, ?_⟩; refine (Try_rSameItem (S := S) (T := T) (x := x) (y := y) (TryPartU.ext (x := .inl x) HU.out hE) (TryPartU.ext (x := .inl y) HW.out hE)).mono ?_; rw [HQ.out]; rintro e w' ⟨rfl, hb⟩; refine ⟨?_, hb⟩; rfl
            simp only [Act.put, List.setIfInBounds_toArray, List.set_cons_zero, List.set_cons_succ]
            refine wpParts_det (by rfl) (fun W hE hN => ?_) ?_
            · go_simp; refine ⟨Below.refl _ _, ?_⟩; rfl
            simp only [Act.put, List.setIfInBounds_toArray, List.set_cons_zero, List.set_cons_succ]
            refine wpParts_end fun W1 hE1 hG1 => ?_
            have hcW1 := fun b o h => hE1.cell (p := ⟨b, o, none⟩) h
            have hfW1 := fun b o h => hE1.frozen (p := ⟨b, o, none⟩) h
            have HB1 := Lib.hid (HB.out.trans (hE1.mono HB.out.size))
            have HY1 := Lib.hid (HX1.out.ext hE1)
            have HY2 := Lib.hid (HX2.out.ext hE1)
            have HST2 := Lib.hid (show sameIs (A.items.drop 0) (B.items.drop 0) = sameIs (A.items.drop (k + 1)) (B.items.drop (k + 1)) by rw [HST.out, HSD.out, HQ.out, Bool.true_and])
            clear hE1 hG1 c1 c2
            go_wp2_with fail
            go_roundw
            case rel => exact ⟨k + 1, HLT.out, by go_num, HST2.out, HY1.out, HY2.out, HB1.out⟩
            case measure => simp [intOf]; omega
        | false =>
          have HWV := Lib.hid (show sameR A B = false by
            have h := HST.out
            simp only [List.drop_zero] at h
            rw [HV.out, h, HSD.out, HQ.out, Bool.false_and, Bool.false_and])
          go_wp2_with fail
          refine' wp_region_seq [.inl _, .inl _, .inl _, .inl _, .inl _, .inl _, .inl _, .inl _, .inl _, .inl _, .inl _, .inl _] (by kernel_rfl) (by kernel_rfl) ?main2
          case main2 =>
            refine wpParts_det (by rfl) (fun W hE hN => ?_) ?_
            · go_simp; refine ⟨Below.refl _ _, ?_⟩; rfl
            simp only [Act.put, List.setIfInBounds_toArray, List.set_cons_zero, List.set_cons_succ]
            refine wpParts_det (by rfl) (fun W hE hN => ?_) ?_
            · have hc := fun b o h => hE.cell (p := ⟨b, o, none⟩) h
              go_simp; refine ⟨Below.refl _ _, ?_⟩; rfl
            simp only [Act.put, List.setIfInBounds_toArray, List.set_cons_zero, List.set_cons_succ]
            refine wpParts_det (by rfl) (fun W hE hN => ?_) ?_
            · go_simp; refine ⟨Below.refl _ _, ?_⟩; rfl
            simp only [Act.put, List.setIfInBounds_toArray, List.set_cons_zero, List.set_cons_succ]
            refine wpParts_det (by rfl) (fun W hE hN => ?_) ?_
            · go_simp; refine ⟨Below.refl _ _, ?_⟩; rfl
            simp only [Act.put, List.setIfInBounds_toArray, List.set_cons_zero, List.set_cons_succ]
            refine wpParts_det (by rfl) (fun W hE hN => ?_) ?_
            · have hc := fun b o h => hE.cell (p := ⟨b, o, none⟩) h
              go_simp; refine ⟨Below.refl _ _, ?_⟩; rfl
            simp only [Act.put, List.setIfInBounds_toArray, List.set_cons_zero, List.set_cons_succ]
            refine wpParts_det (by rfl) (fun W hE hN => ?_) ?_
            · go_simp; refine ⟨Below.refl _ _, ?_⟩; rfl
            simp only [Act.put, List.setIfInBounds_toArray, List.set_cons_zero, List.set_cons_succ]
            refine wpParts_det (by rfl) (fun W hE hN => ?_) ?_
            · have hc := fun b o h => hE.cell (p := ⟨b, o, none⟩) h
              go_simp; refine ⟨Below.refl _ _, ?_⟩; rfl
            simp only [Act.put, List.setIfInBounds_toArray, List.set_cons_zero, List.set_cons_succ]
            refine wpParts_det (by rfl) (fun W hE hN => ?_) ?_
            · go_simp; refine ⟨Below.refl _ _, ?_⟩; rfl
            simp only [Act.put, List.setIfInBounds_toArray, List.set_cons_zero, List.set_cons_succ]
            refine wpParts_det (by rfl) (fun W hE hN => ?_) ?_
            · go_simp; refine ⟨Below.refl _ _, ?_⟩; rfl
            simp only [Act.put, List.setIfInBounds_toArray, List.set_cons_zero, List.set_cons_succ]
            refine wpParts_det (by rfl) (fun W hE hN => ?_) ?_
            · have hc := fun b o h => hE.cell (p := ⟨b, o, none⟩) h
              go_simp; refine ⟨Below.refl _ _, ?_⟩; rfl
            simp only [Act.put, List.setIfInBounds_toArray, List.set_cons_zero, List.set_cons_succ]
            refine wpParts_det (by rfl) (fun W hE hN => ?_) ?_
            · go_simp; refine ⟨Below.refl _ _, ?_⟩; refine (Try_rSameItem (S := S) (T := T) (x := x) (y := y) (TryPartU.ext (x := .inl x) HU.out hE) (TryPartU.ext (x := .inl y) HW.out hE)).mono ?_; rw [HQ.out]; rintro e w' ⟨rfl, hb⟩; refine ⟨?_, hb⟩; rfl
            simp only [Act.put, List.setIfInBounds_toArray, List.set_cons_zero, List.set_cons_succ]
            refine wpParts_det (by rfl) (fun W hE hN => ?_) ?_
            · go_simp; refine ⟨Below.refl _ _, ?_⟩; rfl
            simp only [Act.put, List.setIfInBounds_toArray, List.set_cons_zero, List.set_cons_succ]
            refine wpParts_end fun W1 hE1 hG1 => ?_
            have hcW1 := fun b o h => hE1.cell (p := ⟨b, o, none⟩) h
            have hfW1 := fun b o h => hE1.frozen (p := ⟨b, o, none⟩) h
            have HB1 := Lib.hid (HB.out.trans (hE1.mono HB.out.size))
            clear hE1 hG1 c1 c2
            go_wp2
            go_ret
            exact ⟨ret_bool HWV.out.symm, HB1.out⟩
      · have hlt' : ¬ (k : Int) < (il : Int) := by omega
        have HIS := Lib.hid (show sameIs A.items B.items = true by
          have h := HST.out
          simp only [List.drop_zero] at h
          rw [h, List.drop_of_length_le (by have := E1.out; omega), List.drop_of_length_le (by have := E3.out; omega)]
          rfl)
        have HV2 := Lib.hid (show sameR A B = sameKs A.kids B.kids by rw [HV.out, HIS.out, Bool.true_and])
        clear hlt hk hbel
        go_wp2_with fail
        go_loopw [6] (fun ix wr => TryRSRel w kl [.bool true, .slice ia il ic, .slice ka kl kc] [.bool true, .slice ja il jc, .slice la kl lc] (fun k => sameKs (A.kids.drop k) (B.kids.drop k)) ix wr) (fun ix _ => kl - (intOf ix).toNat)
        case atStart => exact ⟨0, Nat.zero_le _, rfl, rfl, HX1.out, HX2.out, HB.out⟩
        clear HST HX1 HX2 HB c1 c2 l1 l2
        case round =>
          obtain ⟨k, hk, rfl, hst, hx1, hx2, hbel⟩ := hrel
          have HST := Lib.hid hst
          have HX1 := Lib.hid hx1
          have HX2 := Lib.hid hx2
          have HB := Lib.hid hbel
          have c1 := hx1.cells
          have c2 := hx2.cells
          have l1 := hx1.lt
          have l2 := hx2.lt
          clear hst hx1 hx2
          by_cases hlt : k < kl
          · obtain ⟨x, hx⟩ : ∃ x, A.kids[k]? = some x := ⟨_, List.getElem?_eq_getElem (by have := E2.out; omega)⟩
            obtain ⟨y, hy⟩ : ∃ y, B.kids[k]? = some y := ⟨_, List.getElem?_eq_getElem (by have := E4.out; omega)⟩
            obtain ⟨bx, ox, xa, xl, xc, rfl, hb1, hs1, d0, d1, d2, d3, d4, d5, d6, d7, h4, h5, h6⟩ := (HA.out.ext HB.out).kids.hat k x hx
            obtain ⟨by_, oy, ya, yl, yc, rfl, hb2, hs2, f0, f1, f2, f3, f4, f5, f6, f7, g4, g5, g6⟩ := (HBN.out.ext HB.out).kids.hat k y hy
            have HK1 := Lib.hid h4.at_
            have HK2 := Lib.hid g4.at_
            have HSD := Lib.hid (sameKs_drop hx hy)
            have hlt' : (k : Int) < (kl : Int) := by omega
            have HLT := Lib.hid hlt
            have hk0 : ¬ (k : Int) < 0 := by omega
            clear hx hy h4 h5 h6 g4 g5 g6 hs1 hs2 hk hlt hbel
            obtain ⟨q, hq⟩ : ∃ q, decide (x.key = y.key) = q := ⟨_, rfl⟩
            obtain ⟨r, hr⟩ : ∃ r, decide (x.at_ = y.at_) = r := ⟨_, rfl⟩
            obtain ⟨t, ht⟩ : ∃ t, sameRed x.red y.red = t := ⟨_, rfl⟩
            have HQ := Lib.hid (show sameKid x y = (q && (r && t)) by unfold sameKid; rw [hq, hr, ht])
            have hq1 : (x.key == y.key) = q := by rw [list_beq, hq]
            have hq2 : (x.key != y.key) = !q := by rw [bne, list_beq, hq]
            have hr1 : (x.at_ == y.at_) = r := by rw [← hr, Bool.eq_iff_iff]; simp
            have hr2 : (x.at_ != y.at_) = !r := by rw [bne, hr1]
            have ht1 : (decide (x.red.c = y.red.c) && (decide (x.red.n = y.red.n) && (decide (hi x.red.s = hi y.red.s) && (decide (lo x.red.s = lo y.red.s) && (decide (x.red.l = y.red.l) && decide (x.red.m = y.red.m)))))) = t := ht
            clear hq hr ht
            cases q with
            | false =>
              have HWV := Lib.hid (show sameR A B = false by
                have h := HST.out
                simp only [List.drop_zero] at h
                rw [HV2.out, h, HSD.out, HQ.out, Bool.false_and, Bool.false_and])
              clear hr1 hr2 ht1
              go_wp2_with fail
              refine' wp_region_seq [(Sum.inl _ : Piece), (Sum.inl _ : Piece), (Sum.inl _ : Piece), (Sum.inl _ : Piece), (Sum.inl _ : Piece), (Sum.inl _ : Piece), (Sum.inl _ : Piece), (Sum.inl _ : Piece), (Sum.inl _ : Piece), (Sum.inl _ : Piece), (Sum.inl _ : Piece), (Sum.inl _ : Piece), (Sum.inl _ : Piece), (Sum.inl _ : Piece), (Sum.inl _ : Piece), (Sum.inl _ : Piece), (Sum.inl undef : Piece), (Sum.inl undef : Piece), (Sum.inl undef : Piece), (Sum.inl undef : Piece), (Sum.inl undef : Piece), (Sum.inl undef : Piece), (Sum.inl undef : Piece), (Sum.inl undef : Piece), (Sum.inl undef : Piece), (Sum.inl undef : Piece), (Sum.inl undef : Piece), (Sum.inl undef : Piece), (Sum.inl undef : Piece), (Sum.inl _ : Piece), (Sum.inl _ : Piece), (Sum.inl undef : Piece), (Sum.inl undef : Piece), (Sum.inl undef : Piece), (Sum.inl undef : Piece), (Sum.inl undef : Piece), (Sum.inl undef : Piece), (Sum.inl undef : Piece), (Sum.inl undef : Piece), (Sum.inl undef : Piece), (Sum.inl undef : Piece), (Sum.inl undef : Piece), (Sum.inl undef : Piece), (Sum.inl undef : Piece), (Sum.inl _ : Piece)] (by kernel_rfl) (by kernel_rfl) ?main3
              case main3 =>
                refine wpParts_det (by rfl) (fun W hE hN => ?_) ?_
                · go_simp; refine ⟨Below.refl _ _, ?_⟩; rfl
                simp only [Act.put, List.setIfInBounds_toArray, List.set_cons_zero, List.set_cons_succ]
                refine wpParts_det (by rfl) (fun W hE hN => ?_) ?_
                · have hc := fun b o h => hE.cell (p := ⟨b, o, none⟩) h
                  go_simp; refine ⟨Below.refl _ _, ?_⟩; rfl
                simp only [Act.put, List.setIfInBounds_toArray, List.set_cons_zero, List.set_cons_succ]
                refine wpParts_det (by rfl) (fun W hE hN => ?_) ?_
                · go_simp; refine ⟨Below.refl _ _, ?_⟩; rfl
                simp only [Act.put, List.setIfInBounds_toArray, List.set_cons_zero, List.set_cons_succ]
                refine wpParts_det (by rfl) (fun W hE hN => ?_) ?_
                · go_simp; refine ⟨Below.refl _ _, ?_⟩; rfl
                simp only [Act.put, List.setIfInBounds_toArray, List.set_cons_zero, List.set_cons_succ]
                refine wpParts_det (by rfl) (fun W hE hN => ?_) ?_
                · go_simp; refine ⟨Below.refl _ _, ?_⟩; rfl
                simp only [Act.put, List.setIfInBounds_toArray, List.set_cons_zero, List.set_cons_succ]
                refine wpParts_det (by rfl) (fun W hE hN => ?_) ?_
                · have hc := fun b o h => hE.cell (p := ⟨b, o, none⟩) h
                  go_simp; refine ⟨Below.refl _ _, ?_⟩; rfl
                simp only [Act.put, List.setIfInBounds_toArray, List.set_cons_zero, List.set_cons_succ]
                refine wpParts_det (by rfl) (fun W hE hN => ?_) ?_
                · have k1 := conv_bytes (HK1.out.ext hE) 22 9 5 Try.underlying22 Try.underlying5 Try.underlying9; go_simp; refine ⟨Below.refl _ _, ?_⟩; rfl
                simp only [Act.put, List.setIfInBounds_toArray, List.set_cons_zero, List.set_cons_succ]
                refine wpParts_det (by rfl) (fun W hE hN => ?_) ?_
                · go_simp; refine ⟨Below.refl _ _, ?_⟩; rfl
                simp only [Act.put, List.setIfInBounds_toArray, List.set_cons_zero, List.set_cons_succ]
                refine wpParts_det (by rfl) (fun W hE hN => ?_) ?_
                · have hc := fun b o h => hE.cell (p := ⟨b, o, none⟩) h
                  go_simp; refine ⟨Below.refl _ _, ?_⟩; rfl
                simp only [Act.put, List.setIfInBounds_toArray, List.set_cons_zero, List.set_cons_succ]
                refine wpParts_det (by rfl) (fun W hE hN => ?_) ?_
                · go_simp; refine ⟨Below.refl _ _, ?_⟩; rfl
                simp only [Act.put, List.setIfInBounds_toArray, List.set_cons_zero, List.set_cons_succ]
                refine wpParts_det (by rfl) (fun W hE hN => ?_) ?_
                · go_simp; refine ⟨Below.refl _ _, ?_⟩; rfl
                simp only [Act.put, List.setIfInBounds_toArray, List.set_cons_zero, List.set_cons_succ]
                refine wpParts_det (by rfl) (fun W hE hN => ?_) ?_
                · go_simp; refine ⟨Below.refl _ _, ?_⟩; rfl
                simp only [Act.put, List.setIfInBounds_toArray, List.set_cons_zero, List.set_cons_succ]
                refine wpParts_det (by rfl) (fun W hE hN => ?_) ?_
                · have hc := fun b o h => hE.cell (p := ⟨b, o, none⟩) h
                  go_simp; refine ⟨Below.refl _ _, ?_⟩; rfl
                simp only [Act.put, List.setIfInBounds_toArray, List.set_cons_zero, List.set_cons_succ]
                refine wpParts_det (by rfl) (fun W hE hN => ?_) ?_
                · have k1 := conv_bytes (HK2.out.ext hE) 22 9 5 Try.underlying22 Try.underlying5 Try.underlying9; go_simp; refine ⟨Below.refl _ _, ?_⟩; rfl
                simp only [Act.put, List.setIfInBounds_toArray, List.set_cons_zero, List.set_cons_succ]
                refine wpParts_det (by rfl) (fun W hE hN => ?_) ?_
                · go_simp; refine ⟨Below.refl _ _, ?_⟩; rfl
                simp only [Act.put, List.setIfInBounds_toArray, List.set_cons_zero, List.set_cons_succ]
                refine wpParts_det (by rfl) (fun W hE hN => ?_) ?_
                · go_simp; refine ⟨Below.refl _ _, ?_⟩; rfl
                simp only [Act.put, List.setIfInBounds_toArray, List.set_cons_zero, List.set_cons_succ]
                refine wpParts_skip ?_ ?_
                · rfl
                simp only [Act.put, List.setIfInBounds_toArray, List.set_cons_zero, List.set_cons_succ]
                refine wpParts_skip ?_ ?_
                · rfl
                simp only [Act.put, List.setIfInBounds_toArray, List.set_cons_zero, List.set_cons_succ]
                refine wpParts_skip ?_ ?_
                · rfl
                simp only [Act.put, List.setIfInBounds_toArray, List.set_cons_zero, List.set_cons_succ]
                refine wpParts_skip ?_ ?_
                · rfl
                simp only [Act.put, List.setIfInBounds_toArray, List.set_cons_zero, List.set_cons_succ]
                refine wpParts_skip ?_ ?_
                · rfl
                simp only [Act.put, List.setIfInBounds_toArray, List.set_cons_zero, List.set_cons_succ]
                refine wpParts_skip ?_ ?_
                · rfl
                simp only [Act.put, List.setIfInBounds_toArray, List.set_cons_zero, List.set_cons_succ]
                refine wpParts_skip ?_ ?_
                · rfl
                simp only [Act.put, List.setIfInBounds_toArray, List.set_cons_zero, List.set_cons_succ]
                refine wpParts_skip ?_ ?_
                · rfl
                simp only [Act.put, List.setIfInBounds_toArray, List.set_cons_zero, List.set_cons_succ]
                refine wpParts_skip ?_ ?_
                · rfl
                simp only [Act.put, List.setIfInBounds_toArray, List.set_cons_zero, List.set_cons_succ]
                refine wpParts_skip ?_ ?_
                · rfl
                simp only [Act.put, List.setIfInBounds_toArray, List.set_cons_zero, List.set_cons_succ]
                refine wpParts_skip ?_ ?_
                · rfl
                simp only [Act.put, List.setIfInBounds_toArray, List.set_cons_zero, List.set_cons_succ]
                refine wpParts_skip ?_ ?_
                · rfl
                simp only [Act.put, List.setIfInBounds_toArray, List.set_cons_zero, List.set_cons_succ]
                refine wpParts_skip ?_ ?_
                · rfl
                simp only [Act.put, List.setIfInBounds_toArray, List.set_cons_zero, List.set_cons_succ]
                refine wpParts_det (by rfl) (fun W hE hN => ?_) ?_
                · go_simp; refine ⟨Below.refl _ _, ?_⟩; rfl
                simp only [Act.put, List.setIfInBounds_toArray, List.set_cons_zero, List.set_cons_succ]
                refine wpParts_det (by rfl) (fun W hE hN => ?_) ?_
                · go_simp; refine ⟨Below.refl _ _, ?_⟩; rfl
                simp only [Act.put, List.setIfInBounds_toArray, List.set_cons_zero, List.set_cons_succ]
                refine wpParts_skip ?_ ?_
                · rfl
                simp only [Act.put, List.setIfInBounds_toArray, List.set_cons_zero, List.set_cons_succ]
                refine wpParts_skip ?_ ?_
                · rfl
                simp only [Act.put, List.setIfInBounds_toArray, List.set_cons_zero, List.set_cons_succ]
                refine wpParts_skip ?_ ?_
                · rfl
                simp only [Act.put, List.setIfInBounds_toArray, List.set_cons_zero, List.set_cons_succ]
                refine wpParts_skip ?_ ?_
                · rfl
                simp only [Act.put, List.setIfInBounds_toArray, List.set_cons_zero, List.set_cons_succ]
                refine wpParts_skip ?_ ?_
                · rfl
                simp only [Act.put, List.setIfInBounds_toArray, List.set_cons_zero, List.set_cons_succ]
                refine wpParts_skip ?_ ?_
                · rfl
                simp only [Act.put, List.setIfInBounds_toArray, List.set_cons_zero, List.set_cons_succ]
                refine wpParts_skip ?_ ?_
                · rfl
                simp only [Act.put, List.setIfInBounds_toArray, List.set_cons_zero, List.set_cons_succ]
                refine wpParts_skip ?_ ?_
                · rfl
                simp only [Act.put, List.setIfInBounds_toArray, List.set_cons_zero, List.set_cons_succ]
                refine wpParts_skip ?_ ?_
                · rfl
                simp only [Act.put, List.setIfInBounds_toArray, List.set_cons_zero, List.set_cons_succ]
                refine wpParts_skip ?_ ?_
                · rfl
                simp only [Act.put, List.setIfInBounds_toArray, List.set_cons_zero, List.set_cons_succ]
                refine wpParts_skip ?_ ?_
                · rfl
                simp only [Act.put, List.setIfInBounds_toArray, List.set_cons_zero, List.set_cons_succ]
                refine wpParts_skip ?_ ?_
                · rfl
                simp only [Act.put, List.setIfInBounds_toArray, List.set_cons_zero, List.set_cons_succ]
                refine wpParts_skip ?_ ?_
                · rfl
                simp only [Act.put, List.setIfInBounds_toArray, List.set_cons_zero, List.set_cons_succ]
                refine wpParts_det (by rfl) (fun W hE hN => ?_) ?_
                · go_simp; refine ⟨Below.refl _ _, ?_⟩; rfl
                simp only [Act.put, List.setIfInBounds_toArray, List.set_cons_zero, List.set_cons_succ]
                refine wpParts_end fun W1 hE1 hG1 => ?_
                have hcW1 := fun b o h => hE1.cell (p := ⟨b, o, none⟩) h
                have hfW1 := fun b o h => hE1.frozen (p := ⟨b, o, none⟩) h
                have HB1 := Lib.hid (HB.out.trans (hE1.mono HB.out.size))
                clear hE1 hG1 c1 c2
                go_wp2
                go_ret
                exact ⟨ret_bool HWV.out.symm, HB1.out⟩
            | true =>
              cases r with
              | false =>
                have HWV := Lib.hid (show sameR A B = false by
                  have h := HST.out
                  simp only [List.drop_zero] at h
                  rw [HV2.out, h, HSD.out, HQ.out, Bool.true_and, Bool.false_and, Bool.false_and])
                clear ht1
                go_wp2_with fail
                refine' wp_region_seq [(Sum.inl _ : Piece), (Sum.inl _ : Piece), (Sum.inl _ : Piece), (Sum.inl _ : Piece), (Sum.inl _ : Piece), (Sum.inl _ : Piece), (Sum.inl _ : Piece), (Sum.inl _ : Piece), (Sum.inl _ : Piece), (Sum.inl _ : Piece), (Sum.inl _ : Piece), (Sum.inl _ : Piece), (Sum.inl _ : Piece), (Sum.inl _ : Piece), (Sum.inl _ : Piece), (Sum.inl _ : Piece), (Sum.inl _ : Piece), (Sum.inl _ : Piece), (Sum.inl _ : Piece), (Sum.inl _ : Piece), (Sum.inl _ : Piece), (Sum.inl _ : Piece), (Sum.inl _ : Piece), (Sum.inl _ : Piece), (Sum.inl _ : Piece), (Sum.inl _ : Piece), (Sum.inl _ : Piece), (Sum.inl _ : Piece), (Sum.inl _ : Piece), (Sum.inl _ : Piece), (Sum.inl _ : Piece), (Sum.inl undef : Piece), (Sum.inl undef : Piece), (Sum.inl undef : Piece), (Sum.inl undef : Piece), (Sum.inl undef : Piece), (Sum.inl undef : Piece), (Sum.inl undef : Piece), (Sum.inl undef : Piece), (Sum.inl undef : Piece), (Sum.inl undef : Piece), (Sum.inl undef : Piece), (Sum.inl undef : Piece), (Sum.inl undef : Piece), (Sum.inl _ : Piece)] (by kernel_rfl) (by kernel_rfl) ?main4
                case main4 =>
                  refine wpParts_det (by rfl) (fun W hE hN => ?_) ?_
                  · go_simp; refine ⟨Below.refl _ _, ?_⟩; rfl
                  simp only [Act.put, List.setIfInBounds_toArray, List.set_cons_zero, List.set_cons_succ]
                  refine wpParts_det (by rfl) (fun W hE hN => ?_) ?_
                  · have hc := fun b o h => hE.cell (p := ⟨b, o, none⟩) h
                    go_simp; refine ⟨Below.refl _ _, ?_⟩; rfl
                  simp only [Act.put, List.setIfInBounds_toArray, List.set_cons_zero, List.set_cons_succ]
                  refine wpParts_det (by rfl) (fun W hE hN => ?_) ?_
                  · go_simp; refine ⟨Below.refl _ _, ?_⟩; rfl
                  simp only [Act.put, List.setIfInBounds_toArray, List.set_cons_zero, List.set_cons_succ]
                  refine wpParts_det (by rfl) (fun W hE hN => ?_) ?_
                  · go_simp; refine ⟨Below.refl _ _, ?_⟩; rfl
                  simp only [Act.put, List.setIfInBounds_toArray, List.set_cons_zero, List.set_cons_succ]
                  refine wpParts_det (by rfl) (fun W hE hN => ?_) ?_
                  · go_simp; refine ⟨Below.refl _ _, ?_⟩; rfl
                  simp only [Act.put, List.setIfInBounds_toArray, List.set_cons_zero, List.set_cons_succ]
                  refine wpParts_det (by rfl) (fun W hE hN => ?_) ?_
                  · have hc := fun b o h => hE.cell (p := ⟨b, o, none⟩) h
                    go_simp; refine ⟨Below.refl _ _, ?_⟩; rfl
                  simp only [Act.put, List.setIfInBounds_toArray, List.set_cons_zero, List.set_cons_succ]
                  refine wpParts_det (by rfl) (fun W hE hN => ?_) ?_
                  · have k1 := conv_bytes (HK1.out.ext hE) 22 9 5 Try.underlying22 Try.underlying5 Try.underlying9; go_simp; refine ⟨Below.refl _ _, ?_⟩; rfl
                  simp only [Act.put, List.setIfInBounds_toArray, List.set_cons_zero, List.set_cons_succ]
                  refine wpParts_det (by rfl) (fun W hE hN => ?_) ?_
                  · go_simp; refine ⟨Below.refl _ _, ?_⟩; rfl
                  simp only [Act.put, List.setIfInBounds_toArray, List.set_cons_zero, List.set_cons_succ]
                  refine wpParts_det (by rfl) (fun W hE hN => ?_) ?_
                  · have hc := fun b o h => hE.cell (p := ⟨b, o, none⟩) h
                    go_simp; refine ⟨Below.refl _ _, ?_⟩; rfl
                  simp only [Act.put, List.setIfInBounds_toArray, List.set_cons_zero, List.set_cons_succ]
                  refine wpParts_det (by rfl) (fun W hE hN => ?_) ?_
                  · go_simp; refine ⟨Below.refl _ _, ?_⟩; rfl
                  simp only [Act.put, List.setIfInBounds_toArray, List.set_cons_zero, List.set_cons_succ]
                  refine wpParts_det (by rfl) (fun W hE hN => ?_) ?_
                  · go_simp; refine ⟨Below.refl _ _, ?_⟩; rfl
                  simp only [Act.put, List.setIfInBounds_toArray, List.set_cons_zero, List.set_cons_succ]
                  refine wpParts_det (by rfl) (fun W hE hN => ?_) ?_
                  · go_simp; refine ⟨Below.refl _ _, ?_⟩; rfl
                  simp only [Act.put, List.setIfInBounds_toArray, List.set_cons_zero, List.set_cons_succ]
                  refine wpParts_det (by rfl) (fun W hE hN => ?_) ?_
                  · have hc := fun b o h => hE.cell (p := ⟨b, o, none⟩) h
                    go_simp; refine ⟨Below.refl _ _, ?_⟩; rfl
                  simp only [Act.put, List.setIfInBounds_toArray, List.set_cons_zero, List.set_cons_succ]
                  refine wpParts_det (by rfl) (fun W hE hN => ?_) ?_
                  · have k1 := conv_bytes (HK2.out.ext hE) 22 9 5 Try.underlying22 Try.underlying5 Try.underlying9; go_simp; refine ⟨Below.refl _ _, ?_⟩; rfl
                  simp only [Act.put, List.setIfInBounds_toArray, List.set_cons_zero, List.set_cons_succ]
                  refine wpParts_det (by rfl) (fun W hE hN => ?_) ?_
                  · go_simp; refine ⟨Below.refl _ _, ?_⟩; rfl
                  simp only [Act.put, List.setIfInBounds_toArray, List.set_cons_zero, List.set_cons_succ]
                  refine wpParts_det (by rfl) (fun W hE hN => ?_) ?_
                  · go_simp; refine ⟨Below.refl _ _, ?_⟩; rfl
                  simp only [Act.put, List.setIfInBounds_toArray, List.set_cons_zero, List.set_cons_succ]
                  refine wpParts_det (by rfl) (fun W hE hN => ?_) ?_
                  · go_simp; refine ⟨Below.refl _ _, ?_⟩; rfl
                  simp only [Act.put, List.setIfInBounds_toArray, List.set_cons_zero, List.set_cons_succ]
                  refine wpParts_det (by rfl) (fun W hE hN => ?_) ?_
                  · have hc := fun b o h => hE.cell (p := ⟨b, o, none⟩) h
                    go_simp; refine ⟨Below.refl _ _, ?_⟩; rfl
                  simp only [Act.put, List.setIfInBounds_toArray, List.set_cons_zero, List.set_cons_succ]
                  refine wpParts_det (by rfl) (fun W hE hN => ?_) ?_
                  · go_simp; refine ⟨Below.refl _ _, ?_⟩; rfl
                  simp only [Act.put, List.setIfInBounds_toArray, List.set_cons_zero, List.set_cons_succ]
                  refine wpParts_det (by rfl) (fun W hE hN => ?_) ?_
                  · go_simp; refine ⟨Below.refl _ _, ?_⟩; rfl
                  simp only [Act.put, List.setIfInBounds_toArray, List.set_cons_zero, List.set_cons_succ]
                  refine wpParts_det (by rfl) (fun W hE hN => ?_) ?_
                  · go_simp; refine ⟨Below.refl _ _, ?_⟩; rfl
                  simp only [Act.put, List.setIfInBounds_toArray, List.set_cons_zero, List.set_cons_succ]
                  refine wpParts_det (by rfl) (fun W hE hN => ?_) ?_
                  · have hc := fun b o h => hE.cell (p := ⟨b, o, none⟩) h
                    go_simp; refine ⟨Below.refl _ _, ?_⟩; rfl
                  simp only [Act.put, List.setIfInBounds_toArray, List.set_cons_zero, List.set_cons_succ]
                  refine wpParts_det (by rfl) (fun W hE hN => ?_) ?_
                  · go_simp; refine ⟨Below.refl _ _, ?_⟩; rfl
                  simp only [Act.put, List.setIfInBounds_toArray, List.set_cons_zero, List.set_cons_succ]
                  refine wpParts_det (by rfl) (fun W hE hN => ?_) ?_
                  · have hc := fun b o h => hE.cell (p := ⟨b, o, none⟩) h
                    go_simp; refine ⟨Below.refl _ _, ?_⟩; rfl
                  simp only [Act.put, List.setIfInBounds_toArray, List.set_cons_zero, List.set_cons_succ]
                  refine wpParts_det (by rfl) (fun W hE hN => ?_) ?_
                  · go_simp; refine ⟨Below.refl _ _, ?_⟩; rfl
                  simp only [Act.put, List.setIfInBounds_toArray, List.set_cons_zero, List.set_cons_succ]
                  refine wpParts_det (by rfl) (fun W hE hN => ?_) ?_
                  · go_simp; refine ⟨Below.refl _ _, ?_⟩; rfl
                  simp only [Act.put, List.setIfInBounds_toArray, List.set_cons_zero, List.set_cons_succ]
                  refine wpParts_det (by rfl) (fun W hE hN => ?_) ?_
                  · go_simp; refine ⟨Below.refl _ _, ?_⟩; rfl
                  simp only [Act.put, List.setIfInBounds_toArray, List.set_cons_zero, List.set_cons_succ]
                  refine wpParts_det (by rfl) (fun W hE hN => ?_) ?_
                  · have hc := fun b o h => hE.cell (p := ⟨b, o, none⟩) h
                    go_simp; refine ⟨Below.refl _ _, ?_⟩; rfl
                  simp only [Act.put, List.setIfInBounds_toArray, List.set_cons_zero, List.set_cons_succ]
                  refine wpParts_det (by rfl) (fun W hE hN => ?_) ?_
                  · go_simp; refine ⟨Below.refl _ _, ?_⟩; rfl
                  simp only [Act.put, List.setIfInBounds_toArray, List.set_cons_zero, List.set_cons_succ]
                  refine wpParts_det (by rfl) (fun W hE hN => ?_) ?_
                  · go_simp; refine ⟨Below.refl _ _, ?_⟩; rfl
                  simp only [Act.put, List.setIfInBounds_toArray, List.set_cons_zero, List.set_cons_succ]
                  refine wpParts_det (by rfl) (fun W hE hN => ?_) ?_
                  · go_simp; refine ⟨Below.refl _ _, ?_⟩; rfl
                  simp only [Act.put, List.setIfInBounds_toArray, List.set_cons_zero, List.set_cons_succ]
                  refine wpParts_skip ?_ ?_
                  · rfl
                  simp only [Act.put, List.setIfInBounds_toArray, List.set_cons_zero, List.set_cons_succ]
                  refine wpParts_skip ?_ ?_
                  · rfl
                  simp only [Act.put, List.setIfInBounds_toArray, List.set_cons_zero, List.set_cons_succ]
                  refine wpParts_skip ?_ ?_
                  · rfl
                  simp only [Act.put, List.setIfInBounds_toArray, List.set_cons_zero, List.set_cons_succ]
                  refine wpParts_skip ?_ ?_
                  · rfl
                  simp only [Act.put, List.setIfInBounds_toArray, List.set_cons_zero, List.set_cons_succ]
                  refine wpParts_skip ?_ ?_
                  · rfl
                  simp only [Act.put, List.setIfInBounds_toArray, List.set_cons_zero, List.set_cons_succ]
                  refine wpParts_skip ?_ ?_
                  · rfl
                  simp only [Act.put, List.setIfInBounds_toArray, List.set_cons_zero, List.set_cons_succ]
                  refine wpParts_skip ?_ ?_
                  · rfl
                  simp only [Act.put, List.setIfInBounds_toArray, List.set_cons_zero, List.set_cons_succ]
                  refine wpParts_skip ?_ ?_
                  · rfl
                  simp only [Act.put, List.setIfInBounds_toArray, List.set_cons_zero, List.set_cons_succ]
                  refine wpParts_skip ?_ ?_
                  · rfl
                  simp only [Act.put, List.setIfInBounds_toArray, List.set_cons_zero, List.set_cons_succ]
                  refine wpParts_skip ?_ ?_
                  · rfl
                  simp only [Act.put, List.setIfInBounds_toArray, List.set_cons_zero, List.set_cons_succ]
                  refine wpParts_skip ?_ ?_
                  · rfl
                  simp only [Act.put, List.setIfInBounds_toArray, List.set_cons_zero, List.set_cons_succ]
                  refine wpParts_skip ?_ ?_
                  · rfl
                  simp only [Act.put, List.setIfInBounds_toArray, List.set_cons_zero, List.set_cons_succ]
                  refine wpParts_skip ?_ ?_
                  · rfl
                  simp only [Act.put, List.setIfInBounds_toArray, List.set_cons_zero, List.set_cons_succ]
                  refine wpParts_det (by rfl) (fun W hE hN => ?_) ?_
                  · go_simp; refine ⟨Below.refl _ _, ?_⟩; rfl
                  simp only [Act.put, List.setIfInBounds_toArray, List.set_cons_zero, List.set_cons_succ]
                  refine wpParts_end fun W1 hE1 hG1 => ?_
                  have hcW1 := fun b o h => hE1.cell (p := ⟨b, o, none⟩) h
                  have hfW1 := fun b o h => hE1.frozen (p := ⟨b, o, none⟩) h
                  have HB1 := Lib.hid (HB.out.trans (hE1.mono HB.out.size))
                  clear hE1 hG1 c1 c2
                  go_wp2
                  go_ret
                  exact ⟨ret_bool HWV.out.symm, HB1.out⟩
              | true =>
                cases t with
                | false =>
                  have HWV := Lib.hid (show sameR A B = false by
                    have h := HST.out
                    simp only [List.drop_zero] at h
                    rw [HV2.out, h, HSD.out, HQ.out]; rfl)
                  go_wp2_with fail
                  refine' wp_region_seq [(Sum.inl _ : Piece), (Sum.inl _ : Piece), (Sum.inl _ : Piece), (Sum.inl _ : Piece), (Sum.inl _ : Piece), (Sum.inl _ : Piece), (Sum.inl _ : Piece), (Sum.inl _ : Piece), (Sum.inl _ : Piece), (Sum.inl _ : Piece), (Sum.inl _ : Piece), (Sum.inl _ : Piece), (Sum.inl _ : Piece), (Sum.inl _ : Piece), (Sum.inl _ : Piece), (Sum.inl _ : Piece), (Sum.inl _ : Piece), (Sum.inl _ : Piece), (Sum.inl _ : Piece), (Sum.inl _ : Piece), (Sum.inl _ : Piece), (Sum.inl _ : Piece), (Sum.inl _ : Piece), (Sum.inl _ : Piece), (Sum.inl _ : Piece), (Sum.inl _ : Piece), (Sum.inl _ : Piece), (Sum.inl _ : Piece), (Sum.inl _ : Piece), (Sum.inl _ : Piece), (Sum.inl _ : Piece), (Sum.inl _ : Piece), (Sum.inl _ : Piece), (Sum.inl _ : Piece), (Sum.inl _ : Piece), (Sum.inl _ : Piece), (Sum.inl _ : Piece), (Sum.inl _ : Piece), (Sum.inl _ : Piece), (Sum.inl _ : Piece), (Sum.inl _ : Piece), (Sum.inl _ : Piece), (Sum.inl _ : Piece), (Sum.inl _ : Piece), (Sum.inl _ : Piece)] (by kernel_rfl) (by kernel_rfl) ?main5
                  case main5 =>
                    refine wpParts_det (by rfl) (fun W hE hN => ?_) ?_
                    · go_simp; refine ⟨Below.refl _ _, ?_⟩; rfl
                    simp only [Act.put, List.setIfInBounds_toArray, List.set_cons_zero, List.set_cons_succ]
                    refine wpParts_det (by rfl) (fun W hE hN => ?_) ?_
                    · have hc := fun b o h => hE.cell (p := ⟨b, o, none⟩) h
                      go_simp; refine ⟨Below.refl _ _, ?_⟩; rfl
                    simp only [Act.put, List.setIfInBounds_toArray, List.set_cons_zero, List.set_cons_succ]
                    refine wpParts_det (by rfl) (fun W hE hN => ?_) ?_
                    · go_simp; refine ⟨Below.refl _ _, ?_⟩; rfl
                    simp only [Act.put, List.setIfInBounds_toArray, List.set_cons_zero, List.set_cons_succ]
                    refine wpParts_det (by rfl) (fun W hE hN => ?_) ?_
                    · go_simp; refine ⟨Below.refl _ _, ?_⟩; rfl
                    simp only [Act.put, List.setIfInBounds_toArray, List.set_cons_zero, List.set_cons_succ]
                    refine wpParts_det (by rfl) (fun W hE hN => ?_) ?_
                    · go_simp; refine ⟨Below.refl _ _, ?_⟩; rfl
                    simp only [Act.put, List.setIfInBounds_toArray, List.set_cons_zero, List.set_cons_succ]
                    refine wpParts_det (by rfl) (fun W hE hN => ?_) ?_
                    · have hc := fun b o h => hE.cell (p := ⟨b, o, none⟩) h
                      go_simp; refine ⟨Below.refl _ _, ?_⟩; rfl
                    simp only [Act.put, List.setIfInBounds_toArray, List.set_cons_zero, List.set_cons_succ]
                    refine wpParts_det (by rfl) (fun W hE hN => ?_) ?_
                    · have k1 := conv_bytes (HK1.out.ext hE) 22 9 5 Try.underlying22 Try.underlying5 Try.underlying9; go_simp; refine ⟨Below.refl _ _, ?_⟩; rfl
                    simp only [Act.put, List.setIfInBounds_toArray, List.set_cons_zero, List.set_cons_succ]
                    refine wpParts_det (by rfl) (fun W hE hN => ?_) ?_
                    · go_simp; refine ⟨Below.refl _ _, ?_⟩; rfl
                    simp only [Act.put, List.setIfInBounds_toArray, List.set_cons_zero, List.set_cons_succ]
                    refine wpParts_det (by rfl) (fun W hE hN => ?_) ?_
                    · have hc := fun b o h => hE.cell (p := ⟨b, o, none⟩) h
                      go_simp; refine ⟨Below.refl _ _, ?_⟩; rfl
                    simp only [Act.put, List.setIfInBounds_toArray, List.set_cons_zero, List.set_cons_succ]
                    refine wpParts_det (by rfl) (fun W hE hN => ?_) ?_
                    · go_simp; refine ⟨Below.refl _ _, ?_⟩; rfl
                    simp only [Act.put, List.setIfInBounds_toArray, List.set_cons_zero, List.set_cons_succ]
                    refine wpParts_det (by rfl) (fun W hE hN => ?_) ?_
                    · go_simp; refine ⟨Below.refl _ _, ?_⟩; rfl
                    simp only [Act.put, List.setIfInBounds_toArray, List.set_cons_zero, List.set_cons_succ]
                    refine wpParts_det (by rfl) (fun W hE hN => ?_) ?_
                    · go_simp; refine ⟨Below.refl _ _, ?_⟩; rfl
                    simp only [Act.put, List.setIfInBounds_toArray, List.set_cons_zero, List.set_cons_succ]
                    refine wpParts_det (by rfl) (fun W hE hN => ?_) ?_
                    · have hc := fun b o h => hE.cell (p := ⟨b, o, none⟩) h
                      go_simp; refine ⟨Below.refl _ _, ?_⟩; rfl
                    simp only [Act.put, List.setIfInBounds_toArray, List.set_cons_zero, List.set_cons_succ]
                    refine wpParts_det (by rfl) (fun W hE hN => ?_) ?_
                    · have k1 := conv_bytes (HK2.out.ext hE) 22 9 5 Try.underlying22 Try.underlying5 Try.underlying9; go_simp; refine ⟨Below.refl _ _, ?_⟩; rfl
                    simp only [Act.put, List.setIfInBounds_toArray, List.set_cons_zero, List.set_cons_succ]
                    refine wpParts_det (by rfl) (fun W hE hN => ?_) ?_
                    · go_simp; refine ⟨Below.refl _ _, ?_⟩; rfl
                    simp only [Act.put, List.setIfInBounds_toArray, List.set_cons_zero, List.set_cons_succ]
                    refine wpParts_det (by rfl) (fun W hE hN => ?_) ?_
                    · go_simp; refine ⟨Below.refl _ _, ?_⟩; rfl
                    simp only [Act.put, List.setIfInBounds_toArray, List.set_cons_zero, List.set_cons_succ]
                    refine wpParts_det (by rfl) (fun W hE hN => ?_) ?_
                    · go_simp; refine ⟨Below.refl _ _, ?_⟩; rfl
                    simp only [Act.put, List.setIfInBounds_toArray, List.set_cons_zero, List.set_cons_succ]
                    refine wpParts_det (by rfl) (fun W hE hN => ?_) ?_
                    · have hc := fun b o h => hE.cell (p := ⟨b, o, none⟩) h
                      go_simp; refine ⟨Below.refl _ _, ?_⟩; rfl
                    simp only [Act.put, List.setIfInBounds_toArray, List.set_cons_zero, List.set_cons_succ]
                    refine wpParts_det (by rfl) (fun W hE hN => ?_) ?_
                    · go_simp; refine ⟨Below.refl _ _, ?_⟩; rfl
                    simp only [Act.put, List.setIfInBounds_toArray, List.set_cons_zero, List.set_cons_succ]
                    refine wpParts_det (by rfl) (fun W hE hN => ?_) ?_
                    · go_simp; refine ⟨Below.refl _ _, ?_⟩; rfl
                    simp only [Act.put, List.setIfInBounds_toArray, List.set_cons_zero, List.set_cons_succ]
                    refine wpParts_det (by rfl) (fun W hE hN => ?_) ?_
                    · go_simp; refine ⟨Below.refl _ _, ?_⟩; rfl
                    simp only [Act.put, List.setIfInBounds_toArray, List.set_cons_zero, List.set_cons_succ]
                    refine wpParts_det (by rfl) (fun W hE hN => ?_) ?_
                    · have hc := fun b o h => hE.cell (p := ⟨b, o, none⟩) h
                      go_simp; refine ⟨Below.refl _ _, ?_⟩; rfl
                    simp only [Act.put, List.setIfInBounds_toArray, List.set_cons_zero, List.set_cons_succ]
                    refine wpParts_det (by rfl) (fun W hE hN => ?_) ?_
                    · go_simp; refine ⟨Below.refl _ _, ?_⟩; rfl
                    simp only [Act.put, List.setIfInBounds_toArray, List.set_cons_zero, List.set_cons_succ]
                    refine wpParts_det (by rfl) (fun W hE hN => ?_) ?_
                    · have hc := fun b o h => hE.cell (p := ⟨b, o, none⟩) h
                      go_simp; refine ⟨Below.refl _ _, ?_⟩; rfl
                    simp only [Act.put, List.setIfInBounds_toArray, List.set_cons_zero, List.set_cons_succ]
                    refine wpParts_det (by rfl) (fun W hE hN => ?_) ?_
                    · go_simp; refine ⟨Below.refl _ _, ?_⟩; rfl
                    simp only [Act.put, List.setIfInBounds_toArray, List.set_cons_zero, List.set_cons_succ]
                    refine wpParts_det (by rfl) (fun W hE hN => ?_) ?_
                    · go_simp; refine ⟨Below.refl _ _, ?_⟩; rfl
                    simp only [Act.put, List.setIfInBounds_toArray, List.set_cons_zero, List.set_cons_succ]
                    refine wpParts_det (by rfl) (fun W hE hN => ?_) ?_
                    · go_simp; refine ⟨Below.refl _ _, ?_⟩; rfl
                    simp only [Act.put, List.setIfInBounds_toArray, List.set_cons_zero, List.set_cons_succ]
                    refine wpParts_det (by rfl) (fun W hE hN => ?_) ?_
                    · have hc := fun b o h => hE.cell (p := ⟨b, o, none⟩) h
                      go_simp; refine ⟨Below.refl _ _, ?_⟩; rfl
                    simp only [Act.put, List.setIfInBounds_toArray, List.set_cons_zero, List.set_cons_succ]
                    refine wpParts_det (by rfl) (fun W hE hN => ?_) ?_
                    · go_simp; refine ⟨Below.refl _ _, ?_⟩; rfl
                    simp only [Act.put, List.setIfInBounds_toArray, List.set_cons_zero, List.set_cons_succ]
                    refine wpParts_det (by rfl) (fun W hE hN => ?_) ?_
                    · go_simp; refine ⟨Below.refl _ _, ?_⟩; rfl
                    simp only [Act.put, List.setIfInBounds_toArray, List.set_cons_zero, List.set_cons_succ]
                    refine wpParts_det (by rfl) (fun W hE hN => ?_) ?_
                    · go_simp; refine ⟨Below.refl _ _, ?_⟩; rfl
                    simp only [Act.put, List.setIfInBounds_toArray, List.set_cons_zero, List.set_cons_succ]
                    refine wpParts_det (by rfl) (fun W hE hN => ?_) ?_
                    · go_simp; refine ⟨Below.refl _ _, ?_⟩; rfl
                    simp only [Act.put, List.setIfInBounds_toArray, List.set_cons_zero, List.set_cons_succ]
                    refine wpParts_det (by rfl) (fun W hE hN => ?_) ?_
                    · have hc := fun b o h => hE.cell (p := ⟨b, o, none⟩) h
                      go_simp; refine ⟨Below.refl _ _, ?_⟩; rfl
                    simp only [Act.put, List.setIfInBounds_toArray, List.set_cons_zero, List.set_cons_succ]
                    refine wpParts_det (by rfl) (fun W hE hN => ?_) ?_
                    · go_simp; refine ⟨Below.refl _ _, ?_⟩; rfl
                    simp only [Act.put, List.setIfInBounds_toArray, List.set_cons_zero, List.set_cons_succ]
                    refine wpParts_det (by rfl) (fun W hE hN => ?_) ?_
                    · go_simp; refine ⟨Below.refl _ _, ?_⟩; rfl
                    simp only [Act.put, List.setIfInBounds_toArray, List.set_cons_zero, List.set_cons_succ]
                    refine wpParts_det (by rfl) (fun W hE hN => ?_) ?_
                    · go_simp; refine ⟨Below.refl _ _, ?_⟩; rfl
                    simp only [Act.put, List.setIfInBounds_toArray, List.set_cons_zero, List.set_cons_succ]
                    refine wpParts_det (by rfl) (fun W hE hN => ?_) ?_
                    · have hc := fun b o h => hE.cell (p := ⟨b, o, none⟩) h
                      go_simp; refine ⟨Below.refl _ _, ?_⟩; rfl
                    simp only [Act.put, List.setIfInBounds_toArray, List.set_cons_zero, List.set_cons_succ]
                    refine wpParts_det (by rfl) (fun W hE hN => ?_) ?_
                    · go_simp; refine ⟨Below.refl _ _, ?_⟩; rfl
                    simp only [Act.put, List.setIfInBounds_toArray, List.set_cons_zero, List.set_cons_succ]
                    refine wpParts_det (by rfl) (fun W hE hN => ?_) ?_
                    · have hc := fun b o h => hE.cell (p := ⟨b, o, none⟩) h
                      go_simp; refine ⟨Below.refl _ _, ?_⟩; rfl
                    simp only [Act.put, List.setIfInBounds_toArray, List.set_cons_zero, List.set_cons_succ]
                    refine wpParts_det (by rfl) (fun W hE hN => ?_) ?_
                    · go_simp; refine ⟨Below.refl _ _, ?_⟩; rfl
                    simp only [Act.put, List.setIfInBounds_toArray, List.set_cons_zero, List.set_cons_succ]
                    refine wpParts_det (by rfl) (fun W hE hN => ?_) ?_
                    · go_simp; refine ⟨Below.refl _ _, ?_⟩; rfl
                    simp only [Act.put, List.setIfInBounds_toArray, List.set_cons_zero, List.set_cons_succ]
                    refine wpParts_det (by rfl) (fun W hE hN => ?_) ?_
                    · go_simp; refine ⟨Below.refl _ _, ?_⟩; rfl
                    simp only [Act.put, List.setIfInBounds_toArray, List.set_cons_zero, List.set_cons_succ]
                    refine wpParts_det (by rfl) (fun W hE hN => ?_) ?_
                    · have hc := fun b o h => hE.cell (p := ⟨b, o, none⟩) h
                      go_simp; refine ⟨Below.refl _ _, ?_⟩; rfl
                    simp only [Act.put, List.setIfInBounds_toArray, List.set_cons_zero, List.set_cons_succ]
                    refine wpParts_det (by rfl) (fun W hE hN => ?_) ?_
                    · go_simp; rw [ite_red, ht1]; refine ⟨Below.refl _ _, ?_⟩; rfl
                    simp only [Act.put, List.setIfInBounds_toArray, List.set_cons_zero, List.set_cons_succ]
                    refine wpParts_det (by rfl) (fun W hE hN => ?_) ?_
                    · go_simp; refine ⟨Below.refl _ _, ?_⟩; rfl
                    simp only [Act.put, List.setIfInBounds_toArray, List.set_cons_zero, List.set_cons_succ]
                    refine wpParts_end fun W1 hE1 hG1 => ?_
                    have hcW1 := fun b o h => hE1.cell (p := ⟨b, o, none⟩) h
                    have hfW1 := fun b o h => hE1.frozen (p := ⟨b, o, none⟩) h
                    have HB1 := Lib.hid (HB.out.trans (hE1.mono HB.out.size))
                    clear hE1 hG1 c1 c2
                    go_wp2
                    go_ret
                    exact ⟨ret_bool HWV.out.symm, HB1.out⟩
                | true =>
                  have HST2 := Lib.hid (show sameKs (A.kids.drop 0) (B.kids.drop 0) = sameKs (A.kids.drop (k + 1)) (B.kids.drop (k + 1)) by have h := HST.out; dsimp only at h; rw [h, HSD.out, HQ.out]; rfl)
                  go_wp2_with fail
                  refine' wp_region_seq [(Sum.inl _ : Piece), (Sum.inl _ : Piece), (Sum.inl _ : Piece), (Sum.inl _ : Piece), (Sum.inl _ : Piece), (Sum.inl _ : Piece), (Sum.inl _ : Piece), (Sum.inl _ : Piece), (Sum.inl _ : Piece), (Sum.inl _ : Piece), (Sum.inl _ : Piece), (Sum.inl _ : Piece), (Sum.inl _ : Piece), (Sum.inl _ : Piece), (Sum.inl _ : Piece), (Sum.inl _ : Piece), (Sum.inl _ : Piece), (Sum.inl _ : Piece), (Sum.inl _ : Piece), (Sum.inl _ : Piece), (Sum.inl _ : Piece), (Sum.inl _ : Piece), (Sum.inl _ : Piece), (Sum.inl _ : Piece), (Sum.inl _ : Piece), (Sum.inl _ : Piece), (Sum.inl _ : Piece), (Sum.inl _ : Piece), (Sum.inl _ : Piece), (Sum.inl _ : Piece), (Sum.inl _ : Piece), (Sum.inl _ : Piece), (Sum.inl _ : Piece), (Sum.inl _ : Piece), (Sum.inl _ : Piece), (Sum.inl _ : Piece), (Sum.inl _ : Piece), (Sum.inl _ : Piece), (Sum.inl _ : Piece), (Sum.inl _ : Piece), (Sum.inl _ : Piece), (Sum.inl _ : Piece), (Sum.inl _ : Piece), (Sum.inl _ : Piece), (Sum.inl _ : Piece)] (by kernel_rfl) (by kernel_rfl) ?main6
                  case main6 =>
                    refine wpParts_det (by rfl) (fun W hE hN => ?_) ?_
                    · go_simp; refine ⟨Below.refl _ _, ?_⟩; rfl
                    simp only [Act.put, List.setIfInBounds_toArray, List.set_cons_zero, List.set_cons_succ]
                    refine wpParts_det (by rfl) (fun W hE hN => ?_) ?_
                    · have hc := fun b o h => hE.cell (p := ⟨b, o, none⟩) h
                      go_simp; refine ⟨Below.refl _ _, ?_⟩; rfl
                    simp only [Act.put, List.setIfInBounds_toArray, List.set_cons_zero, List.set_cons_succ]
                    refine wpParts_det (by rfl) (fun W hE hN => ?_) ?_
                    · go_simp; refine ⟨Below.refl _ _, ?_⟩; rfl
                    simp only [Act.put, List.setIfInBounds_toArray, List.set_cons_zero, List.set_cons_succ]
                    refine wpParts_det (by rfl) (fun W hE hN => ?_) ?_
                    · go_simp; refine ⟨Below.refl _ _, ?_⟩; rfl
                    simp only [Act.put, List.setIfInBounds_toArray, List.set_cons_zero, List.set_cons_succ]
                    refine wpParts_det (by rfl) (fun W hE hN => ?_) ?_
                    · go_simp; refine ⟨Below.refl _ _, ?_⟩; rfl
                    simp only [Act.put, List.setIfInBounds_toArray, List.set_cons_zero, List.set_cons_succ]
                    refine wpParts_det (by rfl) (fun W hE hN => ?_) ?_
                    · have hc := fun b o h => hE.cell (p := ⟨b, o, none⟩) h
                      go_simp; refine ⟨Below.refl _ _, ?_⟩; rfl
                    simp only [Act.put, List.setIfInBounds_toArray, List.set_cons_zero, List.set_cons_succ]
                    refine wpParts_det (by rfl) (fun W hE hN => ?_) ?_
                    · have k1 := conv_bytes (HK1.out.ext hE) 22 9 5 Try.underlying22 Try.underlying5 Try.underlying9; go_simp; refine ⟨Below.refl _ _, ?_⟩; rfl
                    simp only [Act.put, List.setIfInBounds_toArray, List.set_cons_zero, List.set_cons_succ]
                    refine wpParts_det (by rfl) (fun W hE hN => ?_) ?_
                    · go_simp; refine ⟨Below.refl _ _, ?_⟩; rfl
                    simp only [Act.put, List.setIfInBounds_toArray, List.set_cons_zero, List.set_cons_succ]
                    refine wpParts_det (by rfl) (fun W hE hN => ?_) ?_
                    · have hc := fun b o h => hE.cell (p := ⟨b, o, none⟩) h
                      go_simp; refine ⟨Below.refl _ _, ?_⟩; rfl
                    simp only [Act.put, List.setIfInBounds_toArray, List.set_cons_zero, List.set_cons_succ]
                    refine wpParts_det (by rfl) (fun W hE hN => ?_) ?_
                    · go_simp; refine ⟨Below.refl _ _, ?_⟩; rfl
                    simp only [Act.put, List.setIfInBounds_toArray, List.set_cons_zero, List.set_cons_succ]
                    refine wpParts_det (by rfl) (fun W hE hN => ?_) ?_
                    · go_simp; refine ⟨Below.refl _ _, ?_⟩; rfl
                    simp only [Act.put, List.setIfInBounds_toArray, List.set_cons_zero, List.set_cons_succ]
                    refine wpParts_det (by rfl) (fun W hE hN => ?_) ?_
                    · go_simp; refine ⟨Below.refl _ _, ?_⟩; rfl
                    simp only [Act.put, List.setIfInBounds_toArray, List.set_cons_zero, List.set_cons_succ]
                    refine wpParts_det (by rfl) (fun W hE hN => ?_) ?_
                    · have hc := fun b o h => hE.cell (p := ⟨b, o, none⟩) h
                      go_simp; refine ⟨Below.refl _ _, ?_⟩; rfl
                    simp only [Act.put, List.setIfInBounds_toArray, List.set_cons_zero, List.set_cons_succ]
                    refine wpParts_det (by rfl) (fun W hE hN => ?_) ?_
                    · have k1 := conv_bytes (HK2.out.ext hE) 22 9 5 Try.underlying22 Try.underlying5 Try.underlying9; go_simp; refine ⟨Below.refl _ _, ?_⟩; rfl
                    simp only [Act.put, List.setIfInBounds_toArray, List.set_cons_zero, List.set_cons_succ]
                    refine wpParts_det (by rfl) (fun W hE hN => ?_) ?_
                    · go_simp; refine ⟨Below.refl _ _, ?_⟩; rfl
                    simp only [Act.put, List.setIfInBounds_toArray, List.set_cons_zero, List.set_cons_succ]
                    refine wpParts_det (by rfl) (fun W hE hN => ?_) ?_
                    · go_simp; refine ⟨Below.refl _ _, ?_⟩; rfl
                    simp only [Act.put, List.setIfInBounds_toArray, List.set_cons_zero, List.set_cons_succ]
                    refine wpParts_det (by rfl) (fun W hE hN => ?_) ?_
                    · go_simp; refine ⟨Below.refl _ _, ?_⟩; rfl
                    simp only [Act.put, List.setIfInBounds_toArray, List.set_cons_zero, List.set_cons_succ]
                    refine wpParts_det (by rfl) (fun W hE hN => ?_) ?_
                    · have hc := fun b o h => hE.cell (p := ⟨b, o, none⟩) h
                      go_simp; refine ⟨Below.refl _ _, ?_⟩; rfl
                    simp only [Act.put, List.setIfInBounds_toArray, List.set_cons_zero, List.set_cons_succ]
                    refine wpParts_det (by rfl) (fun W hE hN => ?_) ?_
                    · go_simp; refine ⟨Below.refl _ _, ?_⟩; rfl
                    simp only [Act.put, List.setIfInBounds_toArray, List.set_cons_zero, List.set_cons_succ]
                    refine wpParts_det (by rfl) (fun W hE hN => ?_) ?_
                    · go_simp; refine ⟨Below.refl _ _, ?_⟩; rfl
                    simp only [Act.put, List.setIfInBounds_toArray, List.set_cons_zero, List.set_cons_succ]
                    refine wpParts_det (by rfl) (fun W hE hN => ?_) ?_
                    · go_simp; refine ⟨Below.refl _ _, ?_⟩; rfl
                    simp only [Act.put, List.setIfInBounds_toArray, List.set_cons_zero, List.set_cons_succ]
                    refine wpParts_det (by rfl) (fun W hE hN => ?_) ?_
                    · have hc := fun b o h => hE.cell (p := ⟨b, o, none⟩) h
                      go_simp; refine ⟨Below.refl _ _, ?_⟩; rfl
                    simp only [Act.put, List.setIfInBounds_toArray, List.set_cons_zero, List.set_cons_succ]
                    refine wpParts_det (by rfl) (fun W hE hN => ?_) ?_
                    · go_simp; refine ⟨Below.refl _ _, ?_⟩; rfl
                    simp only [Act.put, List.setIfInBounds_toArray, List.set_cons_zero, List.set_cons_succ]
                    refine wpParts_det (by rfl) (fun W hE hN => ?_) ?_
                    · have hc := fun b o h => hE.cell (p := ⟨b, o, none⟩) h
                      go_simp; refine ⟨Below.refl _ _, ?_⟩; rfl
                    simp only [Act.put, List.setIfInBounds_toArray, List.set_cons_zero, List.set_cons_succ]
                    refine wpParts_det (by rfl) (fun W hE hN => ?_) ?_
                    · go_simp; refine ⟨Below.refl _ _, ?_⟩; rfl
                    simp only [Act.put, List.setIfInBounds_toArray, List.set_cons_zero, List.set_cons_succ]
                    refine wpParts_det (by rfl) (fun W hE hN => ?_) ?_
                    · go_simp; refine ⟨Below.refl _ _, ?_⟩; rfl
                    simp only [Act.put, List.setIfInBounds_toArray, List.set_cons_zero, List.set_cons_succ]
                    refine wpParts_det (by rfl) (fun W hE hN => ?_) ?_
                    · go_simp; refine ⟨Below.refl _ _, ?_⟩; rfl
                    simp only [Act.put, List.setIfInBounds_toArray, List.set_cons_zero, List.set_cons_succ]
                    refine wpParts_det (by rfl) (fun W hE hN => ?_) ?_
                    · have hc := fun b o h => hE.cell (p := ⟨b, o, none⟩) h
                      go_simp; refine ⟨Below.refl _ _, ?_⟩; rfl
                    simp only [Act.put, List.setIfInBounds_toArray, List.set_cons_zero, List.set_cons_succ]
                    refine wpParts_det (by rfl) (fun W hE hN => ?_) ?_
                    · go_simp; refine ⟨Below.refl _ _, ?_⟩; rfl
                    simp only [Act.put, List.setIfInBounds_toArray, List.set_cons_zero, List.set_cons_succ]
                    refine wpParts_det (by rfl) (fun W hE hN => ?_) ?_
                    · go_simp; refine ⟨Below.refl _ _, ?_⟩; rfl
                    simp only [Act.put, List.setIfInBounds_toArray, List.set_cons_zero, List.set_cons_succ]
                    refine wpParts_det (by rfl) (fun W hE hN => ?_) ?_
                    · go_simp; refine ⟨Below.refl _ _, ?_⟩; rfl
                    simp only [Act.put, List.setIfInBounds_toArray, List.set_cons_zero, List.set_cons_succ]
                    refine wpParts_det (by rfl) (fun W hE hN => ?_) ?_
                    · go_simp; refine ⟨Below.refl _ _, ?_⟩; rfl
                    simp only [Act.put, List.setIfInBounds_toArray, List.set_cons_zero, List.set_cons_succ]
                    refine wpParts_det (by rfl) (fun W hE hN => ?_) ?_
                    · have hc := fun b o h => hE.cell (p := ⟨b, o, none⟩) h
                      go_simp; refine ⟨Below.refl _ _, ?_⟩; rfl
                    simp only [Act.put, List.setIfInBounds_toArray, List.set_cons_zero, List.set_cons_succ]
                    refine wpParts_det (by rfl) (fun W hE hN => ?_) ?_
                    · go_simp; refine ⟨Below.refl _ _, ?_⟩; rfl
                    simp only [Act.put, List.setIfInBounds_toArray, List.set_cons_zero, List.set_cons_succ]
                    refine wpParts_det (by rfl) (fun W hE hN => ?_) ?_
                    · go_simp; refine ⟨Below.refl _ _, ?_⟩; rfl
                    simp only [Act.put, List.setIfInBounds_toArray, List.set_cons_zero, List.set_cons_succ]
                    refine wpParts_det (by rfl) (fun W hE hN => ?_) ?_
                    · go_simp; refine ⟨Below.refl _ _, ?_⟩; rfl
                    simp only [Act.put, List.setIfInBounds_toArray, List.set_cons_zero, List.set_cons_succ]
                    refine wpParts_det (by rfl) (fun W hE hN => ?_) ?_
                    · have hc := fun b o h => hE.cell (p := ⟨b, o, none⟩) h
                      go_simp; refine ⟨Below.refl _ _, ?_⟩; rfl
                    simp only [Act.put, List.setIfInBounds_toArray, List.set_cons_zero, List.set_cons_succ]
                    refine wpParts_det (by rfl) (fun W hE hN => ?_) ?_
                    · go_simp; refine ⟨Below.refl _ _, ?_⟩; rfl
                    simp only [Act.put, List.setIfInBounds_toArray, List.set_cons_zero, List.set_cons_succ]
                    refine wpParts_det (by rfl) (fun W hE hN => ?_) ?_
                    · have hc := fun b o h => hE.cell (p := ⟨b, o, none⟩) h
                      go_simp; refine ⟨Below.refl _ _, ?_⟩; rfl
                    simp only [Act.put, List.setIfInBounds_toArray, List.set_cons_zero, List.set_cons_succ]
                    refine wpParts_det (by rfl) (fun W hE hN => ?_) ?_
                    · go_simp; refine ⟨Below.refl _ _, ?_⟩; rfl
                    simp only [Act.put, List.setIfInBounds_toArray, List.set_cons_zero, List.set_cons_succ]
                    refine wpParts_det (by rfl) (fun W hE hN => ?_) ?_
                    · go_simp; refine ⟨Below.refl _ _, ?_⟩; rfl
                    simp only [Act.put, List.setIfInBounds_toArray, List.set_cons_zero, List.set_cons_succ]
                    refine wpParts_det (by rfl) (fun W hE hN => ?_) ?_
                    · go_simp; refine ⟨Below.refl _ _, ?_⟩; rfl
                    simp only [Act.put, List.setIfInBounds_toArray, List.set_cons_zero, List.set_cons_succ]
                    refine wpParts_det (by rfl) (fun W hE hN => ?_) ?_
                    · have hc := fun b o h => hE.cell (p := ⟨b, o, none⟩) h
                      go_simp; refine ⟨Below.refl _ _, ?_⟩; rfl
                    simp only [Act.put, List.setIfInBounds_toArray, List.set_cons_zero, List.set_cons_succ]
                    refine wpParts_det (by rfl) (fun W hE hN => ?_) ?_
                    · go_simp; rw [ite_red, ht1]; refine ⟨Below.refl _ _, ?_⟩; rfl
                    simp only [Act.put, List.setIfInBounds_toArray, List.set_cons_zero, List.set_cons_succ]
                    refine wpParts_det (by rfl) (fun W hE hN => ?_) ?_
                    · go_simp; refine ⟨Below.refl _ _, ?_⟩; rfl
                    simp only [Act.put, List.setIfInBounds_toArray, List.set_cons_zero, List.set_cons_succ]
                    refine wpParts_end fun W1 hE1 hG1 => ?_
                    have hcW1 := fun b o h => hE1.cell (p := ⟨b, o, none⟩) h
                    have hfW1 := fun b o h => hE1.frozen (p := ⟨b, o, none⟩) h
                    have HB1 := Lib.hid (HB.out.trans (hE1.mono HB.out.size))
                    have HY1 := Lib.hid (HX1.out.ext hE1)
                    have HY2 := Lib.hid (HX2.out.ext hE1)
                    clear hE1 hG1 c1 c2
                    go_wp2_with fail
                    go_roundw
                    case rel => exact ⟨k + 1, HLT.out, by go_num, HST2.out, HY1.out, HY2.out, HB1.out⟩
                    case measure => simp [intOf]; omega
          · have hlt' : ¬ (k : Int) < (kl : Int) := by omega
            have HIS := Lib.hid (show sameR A B = true by
              have h := HST.out
              simp only [List.drop_zero] at h
              rw [HV2.out, h, List.drop_of_length_le (by have := E2.out; omega), List.drop_of_length_le (by have := E4.out; omega)]
              rfl)
            clear hlt hk hbel
            go_wp2
            go_ret
            exact ⟨ret_bool HIS.out.symm, HB.out⟩
  | false =>
    go_enter Try.func19, Try.ntmps19
    go_wp2_with fail
    go_loopw [5] (fun ix wr => TryRSRel w il [.bool false, .slice ia il ic, .slice ka kl kc] [.bool false, .slice ja il jc, .slice la kl lc] (fun k => sameIs (A.items.drop k) (B.items.drop k)) ix wr) (fun ix _ => il - (intOf ix).toNat)
    case atStart => exact ⟨0, Nat.zero_le _, rfl, rfl, Q1.out, Q2.out, HB0.out⟩
    case round =>
      obtain ⟨k, hk, rfl, hst, hx1, hx2, hbel⟩ := hrel
      have HST := Lib.hid hst
      have HX1 := Lib.hid hx1
      have HX2 := Lib.hid hx2
      have HB := Lib.hid hbel
      have c1 := hx1.cells
      have c2 := hx2.cells
      have l1 := hx1.lt
      have l2 := hx2.lt
      clear hst hx1 hx2
      by_cases hlt : k < il
      · obtain ⟨x, hx⟩ : ∃ x, A.items[k]? = some x := ⟨_, List.getElem?_eq_getElem (by have := E1.out; omega)⟩
        obtain ⟨y, hy⟩ : ∃ y, B.items[k]? = some y := ⟨_, List.getElem?_eq_getElem (by have := E3.out; omega)⟩
        obtain ⟨bx, ox, xa, xl, xc, va, vl, vc, rfl, hb1, hs1, d0, d1, d2, d3, h4, h5, h6⟩ := (HA.out.ext HB.out).items.hat k x hx
        obtain ⟨by_, oy, ya, yl, yc, za, zl, zc, rfl, hb2, hs2, f0, f1, f2, f3, g4, g5, g6⟩ := (HBN.out.ext HB.out).items.hat k y hy
        have HU := Lib.hid (show TryItemU wr S (.agg #[.slice xa xl xc, .slice va vl vc, .bool x.int, .int .i64 x.n]) x from ⟨_, _, _, _, _, _, rfl, h4, h5, h6⟩)
        have HW := Lib.hid (show TryItemU wr T (.agg #[.slice ya yl yc, .slice za zl zc, .bool y.int, .int .i64 y.n]) y from ⟨_, _, _, _, _, _, rfl, g4, g5, g6⟩)
        have HSD := Lib.hid (sameIs_drop hx hy)
        have hlt' : (k : Int) < (il : Int) := by omega
        have HLT := Lib.hid hlt
        have hk0 : ¬ (k : Int) < 0 := by omega
        clear hx hy h4 h5 h6 g4 g5 g6 hs1 hs2 hk hlt hbel
        obtain ⟨q, hq⟩ : ∃ q, sameItem x y = q := ⟨_, rfl⟩
        have HQ := Lib.hid hq
        clear hq
        cases q with
        | true =>
          go_wp2_with fail
          refine' wp_region_seq [.inl _, .inl _, .inl _, .inl _, .inl _, .inl _, .inl _, .inl _, .inl _, .inl _, .inl _, .inl _] (by kernel_rfl) (by kernel_rfl) ?main7
          case main7 =>
            refine wpParts_det (by rfl) (fun W hE hN => ?_) ?_
            · go_simp; refine ⟨Below.refl _ _, ?_⟩; rfl
            simp only [Act.put, List.setIfInBounds_toArray, List.set_cons_zero, List.set_cons_succ]
            refine wpParts_det (by rfl) (fun W hE hN => ?_) ?_
            · have hc := fun b o h => hE.cell (p := ⟨b, o, none⟩) h
              go_simp; refine ⟨Below.refl _ _, ?_⟩; rfl
            simp only [Act.put, List.setIfInBounds_toArray, List.set_cons_zero, List.set_cons_succ]
            refine wpParts_det (by rfl) (fun W hE hN => ?_) ?_
            · go_simp; refine ⟨Below.refl _ _, ?_⟩; rfl
            simp only [Act.put, List.setIfInBounds_toArray, List.set_cons_zero, List.set_cons_succ]
            refine wpParts_det (by rfl) (fun W hE hN => ?_) ?_
            · go_simp; refine ⟨Below.refl _ _, ?_⟩; rfl
            simp only [Act.put, List.setIfInBounds_toArray, List.set_cons_zero, List.set_cons_succ]
            refine wpParts_det (by rfl) (fun W hE hN => ?_) ?_
            · have hc := fun b o h => hE.cell (p := ⟨b, o, none⟩) h
              go_simp; refine ⟨Below.refl _ _, ?_⟩; rfl
            simp only [Act.put, List.setIfInBounds_toArray, List.set_cons_zero, List.set_cons_succ]
            refine wpParts_det (by rfl) (fun W hE hN => ?_) ?_
            · go_simp; refine ⟨Below.refl _ _, ?_⟩; rfl
            simp only [Act.put, List.setIfInBounds_toArray, List.set_cons_zero, List.set_cons_succ]
            refine wpParts_det (by rfl) (fun W hE hN => ?_) ?_
            · have hc := fun b o h => hE.cell (p := ⟨b, o, none⟩) h
              go_simp; refine ⟨Below.refl _ _, ?_⟩; rfl
            simp only [Act.put, List.setIfInBounds_toArray, List.set_cons_zero, List.set_cons_succ]
            refine wpParts_det (by rfl) (fun W hE hN => ?_) ?_
            · go_simp; refine ⟨Below.refl _ _, ?_⟩; rfl
            simp only [Act.put, List.setIfInBounds_toArray, List.set_cons_zero, List.set_cons_succ]
            refine wpParts_det (by rfl) (fun W hE hN => ?_) ?_
            · go_simp; refine ⟨Below.refl _ _, ?_⟩; rfl
            simp only [Act.put, List.setIfInBounds_toArray, List.set_cons_zero, List.set_cons_succ]
            refine wpParts_det (by rfl) (fun W hE hN => ?_) ?_
            · have hc := fun b o h => hE.cell (p := ⟨b, o, none⟩) h
              go_simp; refine ⟨Below.refl _ _, ?_⟩; rfl
            simp only [Act.put, List.setIfInBounds_toArray, List.set_cons_zero, List.set_cons_succ]
            refine wpParts_det (by rfl) (fun W hE hN => ?_) ?_
            · go_simp; refine ⟨Below.refl _ _, ?_⟩; refine (Try_rSameItem (S := S) (T := T) (x := x) (y := y) (TryPartU.ext (x := .inl x) HU.out hE) (TryPartU.ext (x := .inl y) HW.out hE)).mono ?_; rw [HQ.out]; rintro e w' ⟨rfl, hb⟩; refine ⟨?_, hb⟩; rfl
            simp only [Act.put, List.setIfInBounds_toArray, List.set_cons_zero, List.set_cons_succ]
            refine wpParts_det (by rfl) (fun W hE hN => ?_) ?_
            · go_simp; refine ⟨Below.refl _ _, ?_⟩; rfl
            simp only [Act.put, List.setIfInBounds_toArray, List.set_cons_zero, List.set_cons_succ]
            refine wpParts_end fun W1 hE1 hG1 => ?_
            have hcW1 := fun b o h => hE1.cell (p := ⟨b, o, none⟩) h
            have hfW1 := fun b o h => hE1.frozen (p := ⟨b, o, none⟩) h
            have HB1 := Lib.hid (HB.out.trans (hE1.mono HB.out.size))
            have HY1 := Lib.hid (HX1.out.ext hE1)
            have HY2 := Lib.hid (HX2.out.ext hE1)
            have HST2 := Lib.hid (show sameIs (A.items.drop 0) (B.items.drop 0) = sameIs (A.items.drop (k + 1)) (B.items.drop (k + 1)) by rw [HST.out, HSD.out, HQ.out, Bool.true_and])
            clear hE1 hG1 c1 c2
            go_wp2_with fail
            go_roundw
            case rel => exact ⟨k + 1, HLT.out, by go_num, HST2.out, HY1.out, HY2.out, HB1.out⟩
            case measure => simp [intOf]; omega
        | false =>
          have HWV := Lib.hid (show sameR A B = false by
            have h := HST.out
            simp only [List.drop_zero] at h
            rw [HV.out, h, HSD.out, HQ.out, Bool.false_and, Bool.false_and])
          go_wp2_with fail
          refine' wp_region_seq [.inl _, .inl _, .inl _, .inl _, .inl _, .inl _, .inl _, .inl _, .inl _, .inl _, .inl _, .inl _] (by kernel_rfl) (by kernel_rfl) ?main8
          case main8 =>
            refine wpParts_det (by rfl) (fun W hE hN => ?_) ?_
            · go_simp; refine ⟨Below.refl _ _, ?_⟩; rfl
            simp only [Act.put, List.setIfInBounds_toArray, List.set_cons_zero, List.set_cons_succ]
            refine wpParts_det (by rfl) (fun W hE hN => ?_) ?_
            · have hc := fun b o h => hE.cell (p := ⟨b, o, none⟩) h
              go_simp; refine ⟨Below.refl _ _, ?_⟩; rfl
            simp only [Act.put, List.setIfInBounds_toArray, List.set_cons_zero, List.set_cons_succ]
            refine wpParts_det (by rfl) (fun W hE hN => ?_) ?_
            · go_simp; refine ⟨Below.refl _ _, ?_⟩; rfl
            simp only [Act.put, List.setIfInBounds_toArray, List.set_cons_zero, List.set_cons_succ]
            refine wpParts_det (by rfl) (fun W hE hN => ?_) ?_
            · go_simp; refine ⟨Below.refl _ _, ?_⟩; rfl
            simp only [Act.put, List.setIfInBounds_toArray, List.set_cons_zero, List.set_cons_succ]
            refine wpParts_det (by rfl) (fun W hE hN => ?_) ?_
            · have hc := fun b o h => hE.cell (p := ⟨b, o, none⟩) h
              go_simp; refine ⟨Below.refl _ _, ?_⟩; rfl
            simp only [Act.put, List.setIfInBounds_toArray, List.set_cons_zero, List.set_cons_succ]
            refine wpParts_det (by rfl) (fun W hE hN => ?_) ?_
            · go_simp; refine ⟨Below.refl _ _, ?_⟩; rfl
            simp only [Act.put, List.setIfInBounds_toArray, List.set_cons_zero, List.set_cons_succ]
            refine wpParts_det (by rfl) (fun W hE hN => ?_) ?_
            · have hc := fun b o h => hE.cell (p := ⟨b, o, none⟩) h
              go_simp; refine ⟨Below.refl _ _, ?_⟩; rfl
            simp only [Act.put, List.setIfInBounds_toArray, List.set_cons_zero, List.set_cons_succ]
            refine wpParts_det (by rfl) (fun W hE hN => ?_) ?_
            · go_simp; refine ⟨Below.refl _ _, ?_⟩; rfl
            simp only [Act.put, List.setIfInBounds_toArray, List.set_cons_zero, List.set_cons_succ]
            refine wpParts_det (by rfl) (fun W hE hN => ?_) ?_
            · go_simp; refine ⟨Below.refl _ _, ?_⟩; rfl
            simp only [Act.put, List.setIfInBounds_toArray, List.set_cons_zero, List.set_cons_succ]
            refine wpParts_det (by rfl) (fun W hE hN => ?_) ?_
            · have hc := fun b o h => hE.cell (p := ⟨b, o, none⟩) h
              go_simp; refine ⟨Below.refl _ _, ?_⟩; rfl
            simp only [Act.put, List.setIfInBounds_toArray, List.set_cons_zero, List.set_cons_succ]
            refine wpParts_det (by rfl) (fun W hE hN => ?_) ?_
            · go_simp; refine ⟨Below.refl _ _, ?_⟩; refine (Try_rSameItem (S := S) (T := T) (x := x) (y := y) (TryPartU.ext (x := .inl x) HU.out hE) (TryPartU.ext (x := .inl y) HW.out hE)).mono ?_; rw [HQ.out]; rintro e w' ⟨rfl, hb⟩; refine ⟨?_, hb⟩; rfl
            simp only [Act.put, List.setIfInBounds_toArray, List.set_cons_zero, List.set_cons_succ]
            refine wpParts_det (by rfl) (fun W hE hN => ?_) ?_
            · go_simp; refine ⟨Below.refl _ _, ?_⟩; rfl
            simp only [Act.put, List.setIfInBounds_toArray, List.set_cons_zero, List.set_cons_succ]
            refine wpParts_end fun W1 hE1 hG1 => ?_
            have hcW1 := fun b o h => hE1.cell (p := ⟨b, o, none⟩) h
            have hfW1 := fun b o h => hE1.frozen (p := ⟨b, o, none⟩) h
            have HB1 := Lib.hid (HB.out.trans (hE1.mono HB.out.size))
            clear hE1 hG1 c1 c2
            go_wp2
            go_ret
            exact ⟨ret_bool HWV.out.symm, HB1.out⟩
      · have hlt' : ¬ (k : Int) < (il : Int) := by omega
        have HIS := Lib.hid (show sameIs A.items B.items = true by
          have h := HST.out
          simp only [List.drop_zero] at h
          rw [h, List.drop_of_length_le (by have := E1.out; omega), List.drop_of_length_le (by have := E3.out; omega)]
          rfl)
        have HV2 := Lib.hid (show sameR A B = sameKs A.kids B.kids by rw [HV.out, HIS.out, Bool.true_and])
        clear hlt hk hbel
        go_wp2_with fail
        go_loopw [6] (fun ix wr => TryRSRel w kl [.bool false, .slice ia il ic, .slice ka kl kc] [.bool false, .slice ja il jc, .slice la kl lc] (fun k => sameKs (A.kids.drop k) (B.kids.drop k)) ix wr) (fun ix _ => kl - (intOf ix).toNat)
        case atStart => exact ⟨0, Nat.zero_le _, rfl, rfl, HX1.out, HX2.out, HB.out⟩
        clear HST HX1 HX2 HB c1 c2 l1 l2
        case round =>
          obtain ⟨k, hk, rfl, hst, hx1, hx2, hbel⟩ := hrel
          have HST := Lib.hid hst
          have HX1 := Lib.hid hx1
          have HX2 := Lib.hid hx2
          have HB := Lib.hid hbel
          have c1 := hx1.cells
          have c2 := hx2.cells
          have l1 := hx1.lt
          have l2 := hx2.lt
          clear hst hx1 hx2
          by_cases hlt : k < kl
          · obtain ⟨x, hx⟩ : ∃ x, A.kids[k]? = some x := ⟨_, List.getElem?_eq_getElem (by have := E2.out; omega)⟩
            obtain ⟨y, hy⟩ : ∃ y, B.kids[k]? = some y := ⟨_, List.getElem?_eq_getElem (by have := E4.out; omega)⟩
            obtain ⟨bx, ox, xa, xl, xc, rfl, hb1, hs1, d0, d1, d2, d3, d4, d5, d6, d7, h4, h5, h6⟩ := (HA.out.ext HB.out).kids.hat k x hx
            obtain ⟨by_, oy, ya, yl, yc, rfl, hb2, hs2, f0, f1, f2, f3, f4, f5, f6, f7, g4, g5, g6⟩ := (HBN.out.ext HB.out).kids.hat k y hy
            have HK1 := Lib.hid h4.at_
            have HK2 := Lib.hid g4.at_
            have HSD := Lib.hid (sameKs_drop hx hy)
            have hlt' : (k : Int) < (kl : Int) := by omega
            have HLT := Lib.hid hlt
            have hk0 : ¬ (k : Int) < 0 := by omega
            clear hx hy h4 h5 h6 g4 g5 g6 hs1 hs2 hk hlt hbel
            obtain ⟨q, hq⟩ : ∃ q, decide (x.key = y.key) = q := ⟨_, rfl⟩
            obtain ⟨r, hr⟩ : ∃ r, decide (x.at_ = y.at_) = r := ⟨_, rfl⟩
            obtain ⟨t, ht⟩ : ∃ t, sameRed x.red y.red = t := ⟨_, rfl⟩
            have HQ := Lib.hid (show sameKid x y = (q && (r && t)) by unfold sameKid; rw [hq, hr, ht])
            have hq1 : (x.key == y.key) = q := by rw [list_beq, hq]
            have hq2 : (x.key != y.key) = !q := by rw [bne, list_beq, hq]
            have hr1 : (x.at_ == y.at_) = r := by rw [← hr, Bool.eq_iff_iff]; simp
            have hr2 : (x.at_ != y.at_) = !r := by rw [bne, hr1]
            have ht1 : (decide (x.red.c = y.red.c) && (decide (x.red.n = y.red.n) && (decide (hi x.red.s = hi y.red.s) && (decide (lo x.red.s = lo y.red.s) && (decide (x.red.l = y.red.l) && decide (x.red.m = y.red.m)))))) = t := ht
            clear hq hr ht
            cases q with
            | false =>
              have HWV := Lib.hid (show sameR A B = false by
                have h := HST.out
                simp only [List.drop_zero] at h
                rw [HV2.out, h, HSD.out, HQ.out, Bool.false_and, Bool.false_and])
              clear hr1 hr2 ht1
              go_wp2_with fail
              refine' wp_region_seq [(Sum.inl _ : Piece), (Sum.inl _ : Piece), (Sum.inl _ : Piece), (Sum.inl _ : Piece), (Sum.inl _ : Piece), (Sum.inl _ : Piece), (Sum.inl _ : Piece), (Sum.inl _ : Piece), (Sum.inl _ : Piece), (Sum.inl _ : Piece), (Sum.inl _ : Piece), (Sum.inl _ : Piece), (Sum.inl _ : Piece), (Sum.inl _ : Piece), (Sum.inl _ : Piece), (Sum.inl _ : Piece), (Sum.inl undef : Piece), (Sum.inl undef : Piece), (Sum.inl undef : Piece), (Sum.inl undef : Piece), (Sum.inl undef : Piece), (Sum.inl undef : Piece), (Sum.inl undef : Piece), (Sum.inl undef : Piece), (Sum.inl undef : Piece), (Sum.inl undef : Piece), (Sum.inl undef : Piece), (Sum.inl undef : Piece), (Sum.inl undef : Piece), (Sum.inl _ : Piece), (Sum.inl _ : Piece), (Sum.inl undef : Piece), (Sum.inl undef : Piece), (Sum.inl undef : Piece), (Sum.inl undef : Piece), (Sum.inl undef : Piece), (Sum.inl undef : Piece), (Sum.inl undef : Piece), (Sum.inl undef : Piece), (Sum.inl undef : Piece), (Sum.inl undef : Piece), (Sum.inl undef : Piece), (Sum.inl undef : Piece), (Sum.inl undef : Piece), (Sum.inl _ : Piece)] (by kernel_rfl) (by kernel_rfl) ?main9
              case main9 =>
                refine wpParts_det (by rfl) (fun W hE hN => ?_) ?_
                · go_simp; refine ⟨Below.refl _ _, ?_⟩; rfl
                simp only [Act.put, List.setIfInBounds_toArray, List.set_cons_zero, List.set_cons_succ]
                refine wpParts_det (by rfl) (fun W hE hN => ?_) ?_
                · have hc := fun b o h => hE.cell (p := ⟨b, o, none⟩) h
                  go_simp; refine ⟨Below.refl _ _, ?_⟩; rfl
                simp only [Act.put, List.setIfInBounds_toArray, List.set_cons_zero, List.set_cons_succ]
                refine wpParts_det (by rfl) (fun W hE hN => ?_) ?_
                · go_simp; refine ⟨Below.refl _ _, ?_⟩; rfl
                simp only [Act.put, List.setIfInBounds_toArray, List.set_cons_zero, List.set_cons_succ]
                refine wpParts_det (by rfl) (fun W hE hN => ?_) ?_
                · go_simp; refine ⟨Below.refl _ _, ?_⟩; rfl
                simp only [Act.put, List.setIfInBounds_toArray, List.set_cons_zero, List.set_cons_succ]
                refine wpParts_det (by rfl) (fun W hE hN => ?_) ?_
                · go_simp; refine ⟨Below.refl _ _, ?_⟩; rfl
                simp only [Act.put, List.setIfInBounds_toArray, List.set_cons_zero, List.set_cons_succ]
                refine wpParts_det (by rfl) (fun W hE hN => ?_) ?_
                · have hc := fun b o h => hE.cell (p := ⟨b, o, none⟩) h
                  go_simp; refine ⟨Below.refl _ _, ?_⟩; rfl
                simp only [Act.put, List.setIfInBounds_toArray, List.set_cons_zero, List.set_cons_succ]
                refine wpParts_det (by rfl) (fun W hE hN => ?_) ?_
                · have k1 := conv_bytes (HK1.out.ext hE) 22 9 5 Try.underlying22 Try.underlying5 Try.underlying9; go_simp; refine ⟨Below.refl _ _, ?_⟩; rfl
                simp only [Act.put, List.setIfInBounds_toArray, List.set_cons_zero, List.set_cons_succ]
                refine wpParts_det (by rfl) (fun W hE hN => ?_) ?_
                · go_simp; refine ⟨Below.refl _ _, ?_⟩; rfl
                simp only [Act.put, List.setIfInBounds_toArray, List.set_cons_zero, List.set_cons_succ]
                refine wpParts_det (by rfl) (fun W hE hN => ?_) ?_
                · have hc := fun b o h => hE.cell (p := ⟨b, o, none⟩) h
                  go_simp; refine ⟨Below.refl _ _, ?_⟩; rfl
                simp only [Act.put, List.setIfInBounds_toArray, List.set_cons_zero, List.set_cons_succ]
                refine wpParts_det (by rfl) (fun W hE hN => ?_) ?_
                · go_simp; refine ⟨Below.refl _ _, ?_⟩; rfl
                simp only [Act.put, List.setIfInBounds_toArray, List.set_cons_zero, List.set_cons_succ]
                refine wpParts_det (by rfl) (fun W hE hN => ?_) ?_
                · go_simp; refine ⟨Below.refl _ _, ?_⟩; rfl
                simp only [Act.put, List.setIfInBounds_toArray, List.set_cons_zero, List.set_cons_succ]
                refine wpParts_det (by rfl) (fun W hE hN => ?_) ?_
                · go_simp; refine ⟨Below.refl _ _, ?_⟩; rfl
                simp only [Act.put, List.setIfInBounds_toArray, List.set_cons_zero, List.set_cons_succ]
                refine wpParts_det (by rfl) (fun W hE hN => ?_) ?_
                · have hc := fun b o h => hE.cell (p := ⟨b, o, none⟩) h
                  go_simp; refine ⟨Below.refl _ _, ?_⟩; rfl
                simp only [Act.put, List.setIfInBounds_toArray, List.set_cons_zero, List.set_cons_succ]
                refine wpParts_det (by rfl) (fun W hE hN => ?_) ?_
                · have k1 := conv_bytes (HK2.out.ext hE) 22 9 5 Try.underlying22 Try.underlying5 Try.underlying9; go_simp; refine ⟨Below.refl _ _, ?_⟩; rfl
                simp only [Act.put, List.setIfInBounds_toArray, List.set_cons_zero, List.set_cons_succ]
                refine wpParts_det (by rfl) (fun W hE hN => ?_) ?_
                · go_simp; refine ⟨Below.refl _ _, ?_⟩; rfl
                simp only [Act.put, List.setIfInBounds_toArray, List.set_cons_zero, List.set_cons_succ]
                refine wpParts_det (by rfl) (fun W hE hN => ?_) ?_
                · go_simp; refine ⟨Below.refl _ _, ?_⟩; rfl
                simp only [Act.put, List.setIfInBounds_toArray, List.set_cons_zero, List.set_cons_succ]
                refine wpParts_skip ?_ ?_
                · rfl
                simp only [Act.put, List.setIfInBounds_toArray, List.set_cons_zero, List.set_cons_succ]
                refine wpParts_skip ?_ ?_
                · rfl
                simp only [Act.put, List.setIfInBounds_toArray, List.set_cons_zero, List.set_cons_succ]
                refine wpParts_skip ?_ ?_
                · rfl
                simp only [Act.put, List.setIfInBounds_toArray, List.set_cons_zero, List.set_cons_succ]
                refine wpParts_skip ?_ ?_
                · rfl
                simp only [Act.put, List.setIfInBounds_toArray, List.set_cons_zero, List.set_cons_succ]
                refine wpParts_skip ?_ ?_
                · rfl
                simp only [Act.put, List.setIfInBounds_toArray, List.set_cons_zero, List.set_cons_succ]
                refine wpParts_skip ?_ ?_
                · rfl
                simp only [Act.put, List.setIfInBounds_toArray, List.set_cons_zero, List.set_cons_succ]
                refine wpParts_skip ?_ ?_
                · rfl
                simp only [Act.put, List.setIfInBounds_toArray, List.set_cons_zero, List.set_cons_succ]
                refine wpParts_skip ?_ ?_
                · rfl
                simp only [Act.put, List.setIfInBounds_toArray, List.set_cons_zero, List.set_cons_succ]
                refine wpParts_skip ?_ ?_
                · rfl
                simp only [Act.put, List.setIfInBounds_toArray, List.set_cons_zero, List.set_cons_succ]
                refine wpParts_skip ?_ ?_
                · rfl
                simp only [Act.put, List.setIfInBounds_toArray, List.set_cons_zero, List.set_cons_succ]
                refine wpParts_skip ?_ ?_
                · rfl
                simp only [Act.put, List.setIfInBounds_toArray, List.set_cons_zero, List.set_cons_succ]
                refine wpParts_skip ?_ ?_
                · rfl
                simp only [Act.put, List.setIfInBounds_toArray, List.set_cons_zero, List.set_cons_succ]
                refine wpParts_skip ?_ ?_
                · rfl
                simp only [Act.put, List.setIfInBounds_toArray, List.set_cons_zero, List.set_cons_succ]
                refine wpParts_det (by rfl) (fun W hE hN => ?_) ?_
                · go_simp; refine ⟨Below.refl _ _, ?_⟩; rfl
                simp only [Act.put, List.setIfInBounds_toArray, List.set_cons_zero, List.set_cons_succ]
                refine wpParts_det (by rfl) (fun W hE hN => ?_) ?_
                · go_simp; refine ⟨Below.refl _ _, ?_⟩; rfl
                simp only [Act.put, List.setIfInBounds_toArray, List.set_cons_zero, List.set_cons_succ]
                refine wpParts_skip ?_ ?_
                · rfl
                simp only [Act.put, List.setIfInBounds_toArray, List.set_cons_zero, List.set_cons_succ]
                refine wpParts_skip ?_ ?_
                · rfl
                simp only [Act.put, List.setIfInBounds_toArray, List.set_cons_zero, List.set_cons_succ]
                refine wpParts_skip ?_ ?_
                · rfl
                simp only [Act.put, List.setIfInBounds_toArray, List.set_cons_zero, List.set_cons_succ]
                refine wpParts_skip ?_ ?_
                · rfl
                simp only [Act.put, List.setIfInBounds_toArray, List.set_cons_zero, List.set_cons_succ]
                refine wpParts_skip ?_ ?_
                · rfl
                simp only [Act.put, List.setIfInBounds_toArray, List.set_cons_zero, List.set_cons_succ]
                refine wpParts_skip ?_ ?_
                · rfl
                simp only [Act.put, List.setIfInBounds_toArray, List.set_cons_zero, List.set_cons_succ]
                refine wpParts_skip ?_ ?_
                · rfl
                simp only [Act.put, List.setIfInBounds_toArray, List.set_cons_zero, List.set_cons_succ]
                refine wpParts_skip ?_ ?_
                · rfl
                simp only [Act.put, List.setIfInBounds_toArray, List.set_cons_zero, List.set_cons_succ]
                refine wpParts_skip ?_ ?_
                · rfl
                simp only [Act.put, List.setIfInBounds_toArray, List.set_cons_zero, List.set_cons_succ]
                refine wpParts_skip ?_ ?_
                · rfl
                simp only [Act.put, List.setIfInBounds_toArray, List.set_cons_zero, List.set_cons_succ]
                refine wpParts_skip ?_ ?_
                · rfl
                simp only [Act.put, List.setIfInBounds_toArray, List.set_cons_zero, List.set_cons_succ]
                refine wpParts_skip ?_ ?_
                · rfl
                simp only [Act.put, List.setIfInBounds_toArray, List.set_cons_zero, List.set_cons_succ]
                refine wpParts_skip ?_ ?_
                · rfl
                simp only [Act.put, List.setIfInBounds_toArray, List.set_cons_zero, List.set_cons_succ]
                refine wpParts_det (by rfl) (fun W hE hN => ?_) ?_
                · go_simp; refine ⟨Below.refl _ _, ?_⟩; rfl
                simp only [Act.put, List.setIfInBounds_toArray, List.set_cons_zero, List.set_cons_succ]
                refine wpParts_end fun W1 hE1 hG1 => ?_
                have hcW1 := fun b o h => hE1.cell (p := ⟨b, o, none⟩) h
                have hfW1 := fun b o h => hE1.frozen (p := ⟨b, o, none⟩) h
                have HB1 := Lib.hid (HB.out.trans (hE1.mono HB.out.size))
                clear hE1 hG1 c1 c2
                go_wp2
                go_ret
                exact ⟨ret_bool HWV.out.symm, HB1.out⟩
            | true =>
              cases r with
              | false =>
                have HWV := Lib.hid (show sameR A B = false by
                  have h := HST.out
                  simp only [List.drop_zero] at h
                  rw [HV2.out, h, HSD.out, HQ.out, Bool.true_and, Bool.false_and, Bool.false_and])
                clear ht1
                go_wp2_with fail
                refine' wp_region_seq [(Sum.inl _ : Piece), (Sum.inl _ : Piece), (Sum.inl _ : Piece), (Sum.inl _ : Piece), (Sum.inl _ : Piece), (Sum.inl _ : Piece), (Sum.inl _ : Piece), (Sum.inl _ : Piece), (Sum.inl _ : Piece), (Sum.inl _ : Piece), (Sum.inl _ : Piece), (Sum.inl _ : Piece), (Sum.inl _ : Piece), (Sum.inl _ : Piece), (Sum.inl _ : Piece), (Sum.inl _ : Piece), (Sum.inl _ : Piece), (Sum.inl _ : Piece), (Sum.inl _ : Piece), (Sum.inl _ : Piece), (Sum.inl _ : Piece), (Sum.inl _ : Piece), (Sum.inl _ : Piece), (Sum.inl _ : Piece), (Sum.inl _ : Piece), (Sum.inl _ : Piece), (Sum.inl _ : Piece), (Sum.inl _ : Piece), (Sum.inl _ : Piece), (Sum.inl _ : Piece), (Sum.inl _ : Piece), (Sum.inl undef : Piece), (Sum.inl undef : Piece), (Sum.inl undef : Piece), (Sum.inl undef : Piece), (Sum.inl undef : Piece), (Sum.inl undef : Piece), (Sum.inl undef : Piece), (Sum.inl undef : Piece), (Sum.inl undef : Piece), (Sum.inl undef : Piece), (Sum.inl undef : Piece), (Sum.inl undef : Piece), (Sum.inl undef : Piece), (Sum.inl _ : Piece)] (by kernel_rfl) (by kernel_rfl) ?main10
                case main10 =>
                  refine wpParts_det (by rfl) (fun W hE hN => ?_) ?_
                  · go_simp; refine ⟨Below.refl _ _, ?_⟩; rfl
                  simp only [Act.put, List.setIfInBounds_toArray, List.set_cons_zero, List.set_cons_succ]
                  refine wpParts_det (by rfl) (fun W hE hN => ?_) ?_
                  · have hc := fun b o h => hE.cell (p := ⟨b, o, none⟩) h
                    go_simp; refine ⟨Below.refl _ _, ?_⟩; rfl
                  simp only [Act.put, List.setIfInBounds_toArray, List.set_cons_zero, List.set_cons_succ]
                  refine wpParts_det (by rfl) (fun W hE hN => ?_) ?_
                  · go_simp; refine ⟨Below.refl _ _, ?_⟩; rfl
                  simp only [Act.put, List.setIfInBounds_toArray, List.set_cons_zero, List.set_cons_succ]
                  refine wpParts_det (by rfl) (fun W hE hN => ?_) ?_
                  · go_simp; refine ⟨Below.refl _ _, ?_⟩; rfl
                  simp only [Act.put, List.setIfInBounds_toArray, List.set_cons_zero, List.set_cons_succ]
                  refine wpParts_det (by rfl) (fun W hE hN => ?_) ?_
                  · go_simp; refine ⟨Below.refl _ _, ?_⟩; rfl
                  simp only [Act.put, List.setIfInBounds_toArray, List.set_cons_zero, List.set_cons_succ]
                  refine wpParts_det (by rfl) (fun W hE hN => ?_) ?_
                  · have hc := fun b o h => hE.cell (p := ⟨b, o, none⟩) h
                    go_simp; refine ⟨Below.refl _ _, ?_⟩; rfl
                  simp only [Act.put, List.setIfInBounds_toArray, List.set_cons_zero, List.set_cons_succ]
                  refine wpParts_det (by rfl) (fun W hE hN => ?_) ?_
                  · have k1 := conv_bytes (HK1.out.ext hE) 22 9 5 Try.underlying22 Try.underlying5 Try.underlying9; go_simp; refine ⟨Below.refl _ _, ?_⟩; rfl
                  simp only [Act.put, List.setIfInBounds_toArray, List.set_cons_zero, List.set_cons_succ]
                  refine wpParts_det (by rfl) (fun W hE hN => ?_) ?_
                  · go_simp; refine ⟨Below.refl _ _, ?_⟩; rfl
                  simp only [Act.put, List.setIfInBounds_toArray, List.set_cons_zero, List.set_cons_succ]
                  refine wpParts_det (by rfl) (fun W hE hN => ?_) ?_
                  · have hc := fun b o h => hE.cell (p := ⟨b, o, none⟩) h
                    go_simp; refine ⟨Below.refl _ _, ?_⟩; rfl
                  simp only [Act.put, List.setIfInBounds_toArray, List.set_cons_zero, List.set_cons_succ]
                  refine wpParts_det (by rfl) (fun W hE hN => ?_) ?_
                  · go_simp; refine ⟨Below.refl _ _, ?_⟩; rfl
                  simp only [Act.put, List.setIfInBounds_toArray, List.set_cons_zero, List.set_cons_succ]
                  refine wpParts_det (by rfl) (fun W hE hN => ?_) ?_
                  · go_simp; refine ⟨Below.refl _ _, ?_⟩; rfl
                  simp only [Act.put, List.setIfInBounds_toArray, List.set_cons_zero, List.set_cons_succ]
                  refine wpParts_det (by rfl) (fun W hE hN => ?_) ?_
                  · go_simp; refine ⟨Below.refl _ _, ?_⟩; rfl
                  simp only [Act.put, List.setIfInBounds_toArray, List.set_cons_zero, List.set_cons_succ]
                  refine wpParts_det (by rfl) (fun W hE hN => ?_) ?_
                  · have hc := fun b o h => hE.cell (p := ⟨b, o, none⟩) h
                    go_simp; refine ⟨Below.refl _ _, ?_⟩; rfl
                  simp only [Act.put, List.setIfInBounds_toArray, List.set_cons_zero, List.set_cons_succ]
                  refine wpParts_det (by rfl) (fun W hE hN => ?_) ?_
                  · have k1 := conv_bytes (HK2.out.ext hE) 22 9 5 Try.underlying22 Try.underlying5 Try.underlying9; go_simp; refine ⟨Below.refl _ _, ?_⟩; rfl
                  simp only [Act.put, List.setIfInBounds_toArray, List.set_cons_zero, List.set_cons_succ]
                  refine wpParts_det (by rfl) (fun W hE hN => ?_) ?_
                  · go_simp; refine ⟨Below.refl _ _, ?_⟩; rfl
                  simp only [Act.put, List.setIfInBounds_toArray, List.set_cons_zero, List.set_cons_succ]
                  refine wpParts_det (by rfl) (fun W hE hN => ?_) ?_
                  · go_simp; refine ⟨Below.refl _ _, ?_⟩; rfl
                  simp only [Act.put, List.setIfInBounds_toArray, List.set_cons_zero, List.set_cons_succ]
                  refine wpParts_det (by rfl) (fun W hE hN => ?_) ?_
                  · go_simp; refine ⟨Below.refl _ _, ?_⟩; rfl
                  simp only [Act.put, List.setIfInBounds_toArray, List.set_cons_zero, List.set_cons_succ]
                  refine wpParts_det (by rfl) (fun W hE hN => ?_) ?_
                  · have hc := fun b o h => hE.cell (p := ⟨b, o, none⟩) h
                    go_simp; refine ⟨Below.refl _ _, ?_⟩; rfl
                  simp only [Act.put, List.setIfInBounds_toArray, List.set_cons_zero, List.set_cons_succ]
                  refine wpParts_det (by rfl) (fun W hE hN => ?_) ?_
                  · go_simp; refine ⟨Below.refl _ _, ?_⟩; rfl
                  simp only [Act.put, List.setIfInBounds_toArray, List.set_cons_zero, List.set_cons_succ]
                  refine wpParts_det (by rfl) (fun W hE hN => ?_) ?_
                  · go_simp; refine ⟨Below.refl _ _, ?_⟩; rfl
                  simp only [Act.put, List.setIfInBounds_toArray, List.set_cons_zero, List.set_cons_succ]
                  refine wpParts_det (by rfl) (fun W hE hN => ?_) ?_
                  · go_simp; refine ⟨Below.refl _ _, ?_⟩; rfl
                  simp only [Act.put, List.setIfInBounds_toArray, List.set_cons_zero, List.set_cons_succ]
                  refine wpParts_det (by rfl) (fun W hE hN => ?_) ?_
                  · have hc := fun b o h => hE.cell (p := ⟨b, o, none⟩) h
                    go_simp; refine ⟨Below.refl _ _, ?_⟩; rfl
                  simp only [Act.put, List.setIfInBounds_toArray, List.set_cons_zero, List.set_cons_succ]
                  refine wpParts_det (by rfl) (fun W hE hN => ?_) ?_
                  · go_simp; refine ⟨Below.refl _ _, ?_⟩; rfl
                  simp only [Act.put, List.setIfInBounds_toArray, List.set_cons_zero, List.set_cons_succ]
                  refine wpParts_det (by rfl) (fun W hE hN => ?_) ?_
                  · have hc := fun b o h => hE.cell (p := ⟨b, o, none⟩) h
                    go_simp; refine ⟨Below.refl _ _, ?_⟩; rfl
                  simp only [Act.put, List.setIfInBounds_toArray, List.set_cons_zero, List.set_cons_succ]
                  refine wpParts_det (by rfl) (fun W hE hN => ?_) ?_
                  · go_simp; refine ⟨Below.refl _ _, ?_⟩; rfl
                  simp only [Act.put, List.setIfInBounds_toArray, List.set_cons_zero, List.set_cons_succ]
                  refine wpParts_det (by rfl) (fun W hE hN => ?_) ?_
                  · go_simp; refine ⟨Below.refl _ _, ?_⟩; rfl
                  simp only [Act.put, List.setIfInBounds_toArray, List.set_cons_zero, List.set_cons_succ]
                  refine wpParts_det (by rfl) (fun W hE hN => ?_) ?_
                  · go_simp; refine ⟨Below.refl _ _, ?_⟩; rfl
                  simp only [Act.put, List.setIfInBounds_toArray, List.set_cons_zero, List.set_cons_succ]
                  refine wpParts_det (by rfl) (fun W hE hN => ?_) ?_
                  · have hc := fun b o h => hE.cell (p := ⟨b, o, none⟩) h
                    go_simp; refine ⟨Below.refl _ _, ?_⟩; rfl
                  simp only [Act.put, List.setIfInBounds_toArray, List.set_cons_zero, List.set_cons_succ]
                  refine wpParts_det (by rfl) (fun W hE hN => ?_) ?_
                  · go_simp; refine ⟨Below.refl _ _, ?_⟩; rfl
                  simp only [Act.put, List.setIfInBounds_toArray, List.set_cons_zero, List.set_cons_succ]
                  refine wpParts_det (by rfl) (fun W hE hN => ?_) ?_
                  · go_simp; refine ⟨Below.refl _ _, ?_⟩; rfl
                  simp only [Act.put, List.setIfInBounds_toArray, List.set_cons_zero, List.set_cons_succ]
                  refine wpParts_det (by rfl) (fun W hE hN => ?_) ?_
                  · go_simp; refine ⟨Below.refl _ _, ?_⟩; rfl
                  simp only [Act.put, List.setIfInBounds_toArray, List.set_cons_zero, List.set_cons_succ]
                  refine wpParts_skip ?_ ?_
                  · rfl
                  simp only [Act.put, List.setIfInBounds_toArray, List.set_cons_zero, List.set_cons_succ]
                  refine wpParts_skip ?_ ?_
                  · rfl
                  simp only [Act.put, List.setIfInBounds_toArray, List.set_cons_zero, List.set_cons_succ]
                  refine wpParts_skip ?_ ?_
                  · rfl
                  simp only [Act.put, List.setIfInBounds_toArray, List.set_cons_zero, List.set_cons_succ]
                  refine wpParts_skip ?_ ?_
                  · rfl
                  simp only [Act.put, List.setIfInBounds_toArray, List.set_cons_zero, List.set_cons_succ]
                  refine wpParts_skip ?_ ?_
                  · rfl
                  simp only [Act.put, List.setIfInBounds_toArray, List.set_cons_zero, List.set_cons_succ]
                  refine wpParts_skip ?_ ?_
                  · rfl
                  simp only [Act.put, List.setIfInBounds_toArray, List.set_cons_zero, List.set_cons_succ]
                  refine wpParts_skip ?_ ?_
                  · rfl
                  simp only [Act.put, List.setIfInBounds_toArray, List.set_cons_zero, List.set_cons_succ]
                  refine wpParts_skip ?_ ?_
                  · rfl
                  simp only [Act.put, List.setIfInBounds_toArray, List.set_cons_zero, List.set_cons_succ]
                  refine wpParts_skip ?_ ?_
                  · rfl
                  simp only [Act.put, List.setIfInBounds_toArray, List.set_cons_zero, List.set_cons_succ]
                  refine wpParts_skip ?_ ?_
                  · rfl
                  simp only [Act.put, List.setIfInBounds_toArray, List.set_cons_zero, List.set_cons_succ]
                  refine wpParts_skip ?_ ?_
                  · rfl
                  simp only [Act.put, List.setIfInBounds_toArray, List.set_cons_zero, List.set_cons_succ]
                  refine wpParts_skip ?_ ?_
                  · rfl
                  simp only [Act.put, List.setIfInBounds_toArray, List.set_cons_zero, List.set_cons_succ]
                  refine wpParts_skip ?_ ?_
                  · rfl
                  simp only [Act.put, List.setIfInBounds_toArray, List.set_cons_zero, List.set_cons_succ]
                  refine wpParts_det (by rfl) (fun W hE hN => ?_) ?_
                  · go_simp; refine ⟨Below.refl _ _, ?_⟩; rfl
                  simp only [Act.put, List.setIfInBounds_toArray, List.set_cons_zero, List.set_cons_succ]
                  refine wpParts_end fun W1 hE1 hG1 => ?_
                  have hcW1 := fun b o h => hE1.cell (p := ⟨b, o, none⟩) h
                  have hfW1 := fun b o h => hE1.frozen (p := ⟨b, o, none⟩) h
                  have HB1 := Lib.hid (HB.out.trans (hE1.mono HB.out.size))
                  clear hE1 hG1 c1 c2
                  go_wp2
                  go_ret
                  exact ⟨ret_bool HWV.out.symm, HB1.out⟩
              | true =>
                cases t with
                | false =>
                  have HWV := Lib.hid (show sameR A B = false by
                    have h := HST.out
                    simp only [List.drop_zero] at h
                    rw [HV2.out, h, HSD.out, HQ.out]; rfl)
                  go_wp2_with fail
                  refine' wp_region_seq [(Sum.inl _ : Piece), (Sum.inl _ : Piece), (Sum.inl _ : Piece), (Sum.inl _ : Piece), (Sum.inl _ : Piece), (Sum.inl _ : Piece), (Sum.inl _ : Piece), (Sum.inl _ : Piece), (Sum.inl _ : Piece), (Sum.inl _ : Piece), (Sum.inl _ : Piece), (Sum.inl _ : Piece), (Sum.inl _ : Piece), (Sum.inl _ : Piece), (Sum.inl _ : Piece), (Sum.inl _ : Piece), (Sum.inl _ : Piece), (Sum.inl _ : Piece), (Sum.inl _ : Piece), (Sum.inl _ : Piece), (Sum.inl _ : Piece), (Sum.inl _ : Piece), (Sum.inl _ : Piece), (Sum.inl _ : Piece), (Sum.inl _ : Piece), (Sum.inl _ : Piece), (Sum.inl _ : Piece), (Sum.inl _ : Piece), (Sum.inl _ : Piece), (Sum.inl _ : Piece), (Sum.inl _ : Piece), (Sum.inl _ : Piece), (Sum.inl _ : Piece), (Sum.inl _ : Piece), (Sum.inl _ : Piece), (Sum.inl _ : Piece), (Sum.inl _ : Piece), (Sum.inl _ : Piece), (Sum.inl _ : Piece), (Sum.inl _ : Piece), (Sum.inl _ : Piece), (Sum.inl _ : Piece), (Sum.inl _ : Piece), (Sum.inl _ : Piece), (Sum.inl _ : Piece)] (by kernel_rfl) (by kernel_rfl) ?main11
                  case main11 =>
                    refine wpParts_det (by rfl) (fun W hE hN => ?_) ?_
                    · go_simp; refine ⟨Below.refl _ _, ?_⟩; rfl
                    simp only [Act.put, List.setIfInBounds_toArray, List.set_cons_zero, List.set_cons_succ]
                    refine wpParts_det (by rfl) (fun W hE hN => ?_) ?_
                    · have hc := fun b o h => hE.cell (p := ⟨b, o, none⟩) h
                      go_simp; refine ⟨Below.refl _ _, ?_⟩; rfl
                    simp only [Act.put, List.setIfInBounds_toArray, List.set_cons_zero, List.set_cons_succ]
                    refine wpParts_det (by rfl) (fun W hE hN => ?_) ?_
                    · go_simp; refine ⟨Below.refl _ _, ?_⟩; rfl
                    simp only [Act.put, List.setIfInBounds_toArray, List.set_cons_zero, List.set_cons_succ]
                    refine wpParts_det (by rfl) (fun W hE hN => ?_) ?_
                    · go_simp; refine ⟨Below.refl _ _, ?_⟩; rfl
                    simp only [Act.put, List.setIfInBounds_toArray, List.set_cons_zero, List.set_cons_succ]
                    refine wpParts_det (by rfl) (fun W hE hN => ?_) ?_
                    · go_simp; refine ⟨Below.refl _ _, ?_⟩; rfl
                    simp only [Act.put, List.setIfInBounds_toArray, List.set_cons_zero, List.set_cons_succ]
                    refine wpParts_det (by rfl) (fun W hE hN => ?_) ?_
                    · have hc := fun b o h => hE.cell (p := ⟨b, o, none⟩) h
                      go_simp; refine ⟨Below.refl _ _, ?_⟩; rfl
                    simp only [Act.put, List.setIfInBounds_toArray, List.set_cons_zero, List.set_cons_succ]
                    refine wpParts_det (by rfl) (fun W hE hN => ?_) ?_
                    · have k1 := conv_bytes (HK1.out.ext hE) 22 9 5 Try.underlying22 Try.underlying5 Try.underlying9; go_simp; refine ⟨Below.refl _ _, ?_⟩; rfl
                    simp only [Act.put, List.setIfInBounds_toArray, List.set_cons_zero, List.set_cons_succ]
                    refine wpParts_det (by rfl) (fun W hE hN => ?_) ?_
                    · go_simp; refine ⟨Below.refl _ _, ?_⟩; rfl
                    simp only [Act.put, List.setIfInBounds_toArray, List.set_cons_zero, List.set_cons_succ]
                    refine wpParts_det (by rfl) (fun W hE hN => ?_) ?_
                    · have hc := fun b o h => hE.cell (p := ⟨b, o, none⟩) h
                      go_simp; refine ⟨Below.refl _ _, ?_⟩; rfl
                    simp only [Act.put, List.setIfInBounds_toArray, List.set_cons_zero, List.set_cons_succ]
                    refine wpParts_det (by rfl) (fun W hE hN => ?_) ?_
                    · go_simp; refine ⟨Below.refl _ _, ?_⟩; rfl
                    simp only [Act.put, List.setIfInBounds_toArray, List.set_cons_zero, List.set_cons_succ]
                    refine wpParts_det (by rfl) (fun W hE hN => ?_) ?_
                    · go_simp; refine ⟨Below.refl _ _, ?_⟩; rfl
                    simp only [Act.put, List.setIfInBounds_toArray, List.set_cons_zero, List.set_cons_succ]
                    refine wpParts_det (by rfl) (fun W hE hN => ?_) ?_
                    · go_simp; refine ⟨Below.refl _ _, ?_⟩; rfl
                    simp only [Act.put, List.setIfInBounds_toArray, List.set_cons_zero, List.set_cons_succ]
                    refine wpParts_det (by rfl) (fun W hE hN => ?_) ?_
                    · have hc := fun b o h => hE.cell (p := ⟨b, o, none⟩) h
                      go_simp; refine ⟨Below.refl _ _, ?_⟩; rfl
                    simp only [Act.put, List.setIfInBounds_toArray, List.set_cons_zero, List.set_cons_succ]
                    refine wpParts_det (by rfl) (fun W hE hN => ?_) ?_
                    · have k1 := conv_bytes (HK2.out.ext hE) 22 9 5 Try.underlying22 Try.underlying5 Try.underlying9; go_simp; refine ⟨Below.refl _ _, ?_⟩; rfl
                    simp only [Act.put, List.setIfInBounds_toArray, List.set_cons_zero, List.set_cons_succ]
                    refine wpParts_det (by rfl) (fun W hE hN => ?_) ?_
                    · go_simp; refine ⟨Below.refl _ _, ?_⟩; rfl
                    simp only [Act.put, List.setIfInBounds_toArray, List.set_cons_zero, List.set_cons_succ]
                    refine wpParts_det (by rfl) (fun W hE hN => ?_) ?_
                    · go_simp; refine ⟨Below.refl _ _, ?_⟩; rfl
                    simp only [Act.put, List.setIfInBounds_toArray, List.set_cons_zero, List.set_cons_succ]
                    refine wpParts_det (by rfl) (fun W hE hN => ?_) ?_
                    · go_simp; refine ⟨Below.refl _ _, ?_⟩; rfl
                    simp only [Act.put, List.setIfInBounds_toArray, List.set_cons_zero, List.set_cons_succ]
                    refine wpParts_det (by rfl) (fun W hE hN => ?_) ?_
                    · have hc := fun b o h => hE.cell (p := ⟨b, o, none⟩) h
                      go_simp; refine ⟨Below.refl _ _, ?_⟩; rfl
                    simp only [Act.put, List.setIfInBounds_toArray, List.set_cons_zero, List.set_cons_succ]
                    refine wpParts_det (by rfl) (fun W hE hN => ?_) ?_
                    · go_simp; refine ⟨Below.refl _ _, ?_⟩; rfl
                    simp only [Act.put, List.setIfInBounds_toArray, List.set_cons_zero, List.set_cons_succ]
                    refine wpParts_det (by rfl) (fun W hE hN => ?_) ?_
                    · go_simp; refine ⟨Below.refl _ _, ?_⟩; rfl
                    simp only [Act.put, List.setIfInBounds_toArray, List.set_cons_zero, List.set_cons_succ]
                    refine wpParts_det (by rfl) (fun W hE hN => ?_) ?_
                    · go_simp; refine ⟨Below.refl _ _, ?_⟩; rfl
                    simp only [Act.put, List.setIfInBounds_toArray, List.set_cons_zero, List.set_cons_succ]
                    refine wpParts_det (by rfl) (fun W hE hN => ?_) ?_
                    · have hc := fun b o h => hE.cell (p := ⟨b, o, none⟩) h
                      go_simp; refine ⟨Below.refl _ _, ?_⟩; rfl
                    simp only [Act.put, List.setIfInBounds_toArray, List.set_cons_zero, List.set_cons_succ]
                    refine wpParts_det (by rfl) (fun W hE hN => ?_) ?_
                    · go_simp; refine ⟨Below.refl _ _, ?_⟩; rfl
                    simp only [Act.put, List.setIfInBounds_toArray, List.set_cons_zero, List.set_cons_succ]
                    refine wpParts_det (by rfl) (fun W hE hN => ?_) ?_
                    · have hc := fun b o h => hE.cell (p := ⟨b, o, none⟩) h
                      go_simp; refine ⟨Below.refl _ _, ?_⟩; rfl
                    simp only [Act.put, List.setIfInBounds_toArray, List.set_cons_zero, List.set_cons_succ]
                    refine wpParts_det (by rfl) (fun W hE hN => ?_) ?_
                    · go_simp; refine ⟨Below.refl _ _, ?_⟩; rfl
                    simp only [Act.put, List.setIfInBounds_toArray, List.set_cons_zero, List.set_cons_succ]
                    refine wpParts_det (by rfl) (fun W hE hN => ?_) ?_
                    · go_simp; refine ⟨Below.refl _ _, ?_⟩; rfl
                    simp only [Act.put, List.setIfInBounds_toArray, List.set_cons_zero, List.set_cons_succ]
                    refine wpParts_det (by rfl) (fun W hE hN => ?_) ?_
                    · go_simp; refine ⟨Below.refl _ _, ?_⟩; rfl
                    simp only [Act.put, List.setIfInBounds_toArray, List.set_cons_zero, List.set_cons_succ]
                    refine wpParts_det (by rfl) (fun W hE hN => ?_) ?_
                    · have hc := fun b o h => hE.cell (p := ⟨b, o, none⟩) h
                      go_simp; refine ⟨Below.refl _ _, ?_⟩; rfl
                    simp only [Act.put, List.setIfInBounds_toArray, List.set_cons_zero, List.set_cons_succ]
                    refine wpParts_det (by rfl) (fun W hE hN => ?_) ?_
                    · go_simp; refine ⟨Below.refl _ _, ?_⟩; rfl
                    simp only [Act.put, List.setIfInBounds_toArray, List.set_cons_zero, List.set_cons_succ]
                    refine wpParts_det (by rfl) (fun W hE hN => ?_) ?_
                    · go_simp; refine ⟨Below.refl _ _, ?_⟩; rfl
                    simp only [Act.put, List.setIfInBounds_toArray, List.set_cons_zero, List.set_cons_succ]
                    refine wpParts_det (by rfl) (fun W hE hN => ?_) ?_
                    · go_simp; refine ⟨Below.refl _ _, ?_⟩; rfl
                    simp only [Act.put, List.setIfInBounds_toArray, List.set_cons_zero, List.set_cons_succ]
                    refine wpParts_det (by rfl) (fun W hE hN => ?_) ?_
                    · go_simp; refine ⟨Below.refl _ _, ?_⟩; rfl
                    simp only [Act.put, List.setIfInBounds_toArray, List.set_cons_zero, List.set_cons_succ]
                    refine wpParts_det (by rfl) (fun W hE hN => ?_) ?_
                    · have hc := fun b o h => hE.cell (p := ⟨b, o, none⟩) h
                      go_simp; refine ⟨Below.refl _ _, ?_⟩; rfl
                    simp only [Act.put, List.setIfInBounds_toArray, List.set_cons_zero, List.set_cons_succ]
                    refine wpParts_det (by rfl) (fun W hE hN => ?_) ?_
                    · go_simp; refine ⟨Below.refl _ _, ?_⟩; rfl
                    simp only [Act.put, List.setIfInBounds_toArray, List.set_cons_zero, List.set_cons_succ]
                    refine wpParts_det (by rfl) (fun W hE hN => ?_) ?_
                    · go_simp; refine ⟨Below.refl _ _, ?_⟩; rfl
                    simp only [Act.put, List.setIfInBounds_toArray, List.set_cons_zero, List.set_cons_succ]
                    refine wpParts_det (by rfl) (fun W hE hN => ?_) ?_
                    · go_simp; refine ⟨Below.refl _ _, ?_⟩; rfl
                    simp only [Act.put, List.setIfInBounds_toArray, List.set_cons_zero, List.set_cons_succ]
                    refine wpParts_det (by rfl) (fun W hE hN => ?_) ?_
                    · have hc := fun b o h => hE.cell (p := ⟨b, o, none⟩) h
                      go_simp; refine ⟨Below.refl _ _, ?_⟩; rfl
                    simp only [Act.put, List.setIfInBounds_toArray, List.set_cons_zero, List.set_cons_succ]
                    refine wpParts_det (by rfl) (fun W hE hN => ?_) ?_
                    · go_simp; refine ⟨Below.refl _ _, ?_⟩; rfl
                    simp only [Act.put, List.setIfInBounds_toArray, List.set_cons_zero, List.set_cons_succ]
                    refine wpParts_det (by rfl) (fun W hE hN => ?_) ?_
                    · have hc := fun b o h => hE.cell (p := ⟨b, o, none⟩) h
                      go_simp; refine ⟨Below.refl _ _, ?_⟩; rfl
                    simp only [Act.put, List.setIfInBounds_toArray, List.set_cons_zero, List.set_cons_succ]
                    refine wpParts_det (by rfl) (fun W hE hN => ?_) ?_
                    · go_simp; refine ⟨Below.refl _ _, ?_⟩; rfl
                    simp only [Act.put, List.setIfInBounds_toArray, List.set_cons_zero, List.set_cons_succ]
                    refine wpParts_det (by rfl) (fun W hE hN => ?_) ?_
                    · go_simp; refine ⟨Below.refl _ _, ?_⟩; rfl
                    simp only [Act.put, List.setIfInBounds_toArray, List.set_cons_zero, List.set_cons_succ]
                    refine wpParts_det (by rfl) (fun W hE hN => ?_) ?_
                    · go_simp; refine ⟨Below.refl _ _, ?_⟩; rfl
                    simp only [Act.put, List.setIfInBounds_toArray, List.set_cons_zero, List.set_cons_succ]
                    refine wpParts_det (by rfl) (fun W hE hN => ?_) ?_
                    · have hc := fun b o h => hE.cell (p := ⟨b, o, none⟩) h
                      go_simp; refine ⟨Below.refl _ _, ?_⟩; rfl
                    simp only [Act.put, List.setIfInBounds_toArray, List.set_cons_zero, List.set_cons_succ]
                    refine wpParts_det (by rfl) (fun W hE hN => ?_) ?_
                    · go_simp; rw [ite_red, ht1]; refine ⟨Below.refl _ _, ?_⟩; rfl
                    simp only [Act.put, List.setIfInBounds_toArray, List.set_cons_zero, List.set_cons_succ]
                    refine wpParts_det (by rfl) (fun W hE hN => ?_) ?_
                    · go_simp; refine ⟨Below.refl _ _, ?_⟩; rfl
                    simp only [Act.put, List.setIfInBounds_toArray, List.set_cons_zero, List.set_cons_succ]
                    refine wpParts_end fun W1 hE1 hG1 => ?_
                    have hcW1 := fun b o h => hE1.cell (p := ⟨b, o, none⟩) h
                    have hfW1 := fun b o h => hE1.frozen (p := ⟨b, o, none⟩) h
                    have HB1 := Lib.hid (HB.out.trans (hE1.mono HB.out.size))
                    clear hE1 hG1 c1 c2
                    go_wp2
                    go_ret
                    exact ⟨ret_bool HWV.out.symm, HB1.out⟩
                | true =>
                  have HST2 := Lib.hid (show sameKs (A.kids.drop 0) (B.kids.drop 0) = sameKs (A.kids.drop (k + 1)) (B.kids.drop (k + 1)) by have h := HST.out; dsimp only at h; rw [h, HSD.out, HQ.out]; rfl)
                  go_wp2_with fail
                  refine' wp_region_seq [(Sum.inl _ : Piece), (Sum.inl _ : Piece), (Sum.inl _ : Piece), (Sum.inl _ : Piece), (Sum.inl _ : Piece), (Sum.inl _ : Piece), (Sum.inl _ : Piece), (Sum.inl _ : Piece), (Sum.inl _ : Piece), (Sum.inl _ : Piece), (Sum.inl _ : Piece), (Sum.inl _ : Piece), (Sum.inl _ : Piece), (Sum.inl _ : Piece), (Sum.inl _ : Piece), (Sum.inl _ : Piece), (Sum.inl _ : Piece), (Sum.inl _ : Piece), (Sum.inl _ : Piece), (Sum.inl _ : Piece), (Sum.inl _ : Piece), (Sum.inl _ : Piece), (Sum.inl _ : Piece), (Sum.inl _ : Piece), (Sum.inl _ : Piece), (Sum.inl _ : Piece), (Sum.inl _ : Piece), (Sum.inl _ : Piece), (Sum.inl _ : Piece), (Sum.inl _ : Piece), (Sum.inl _ : Piece), (Sum.inl _ : Piece), (Sum.inl _ : Piece), (Sum.inl _ : Piece), (Sum.inl _ : Piece), (Sum.inl _ : Piece), (Sum.inl _ : Piece), (Sum.inl _ : Piece), (Sum.inl _ : Piece), (Sum.inl _ : Piece), (Sum.inl _ : Piece), (Sum.inl _ : Piece), (Sum.inl _ : Piece), (Sum.inl _ : Piece), (Sum.inl _ : Piece)] (by kernel_rfl) (by kernel_rfl) ?main12
                  case main12 =>
                    refine wpParts_det (by rfl) (fun W hE hN => ?_) ?_
                    · go_simp; refine ⟨Below.refl _ _, ?_⟩; rfl
                    simp only [Act.put, List.setIfInBounds_toArray, List.set_cons_zero, List.set_cons_succ]
                    refine wpParts_det (by rfl) (fun W hE hN => ?_) ?_
                    · have hc := fun b o h => hE.cell (p := ⟨b, o, none⟩) h
                      go_simp; refine ⟨Below.refl _ _, ?_⟩; rfl
                    simp only [Act.put, List.setIfInBounds_toArray, List.set_cons_zero, List.set_cons_succ]
                    refine wpParts_det (by rfl) (fun W hE hN => ?_) ?_
                    · go_simp; refine ⟨Below.refl _ _, ?_⟩; rfl
                    simp only [Act.put, List.setIfInBounds_toArray, List.set_cons_zero, List.set_cons_succ]
                    refine wpParts_det (by rfl) (fun W hE hN => ?_) ?_
                    · go_simp; refine ⟨Below.refl _ _, ?_⟩; rfl
                    simp only [Act.put, List.setIfInBounds_toArray, List.set_cons_zero, List.set_cons_succ]
                    refine wpParts_det (by rfl) (fun W hE hN => ?_) ?_
                    · go_simp; refine ⟨Below.refl _ _, ?_⟩; rfl
                    simp only [Act.put, List.setIfInBounds_toArray, List.set_cons_zero, List.set_cons_succ]
                    refine wpParts_det (by rfl) (fun W hE hN => ?_) ?_
                    · have hc := fun b o h => hE.cell (p := ⟨b, o, none⟩) h
                      go_simp; refine ⟨Below.refl _ _, ?_⟩; rfl
                    simp only [Act.put, List.setIfInBounds_toArray, List.set_cons_zero, List.set_cons_succ]
                    refine wpParts_det (by rfl) (fun W hE hN => ?_) ?_
                    · have k1 := conv_bytes (HK1.out.ext hE) 22 9 5 Try.underlying22 Try.underlying5 Try.underlying9; go_simp; refine ⟨Below.refl _ _, ?_⟩; rfl
                    simp only [Act.put, List.setIfInBounds_toArray, List.set_cons_zero, List.set_cons_succ]
                    refine wpParts_det (by rfl) (fun W hE hN => ?_) ?_
                    · go_simp; refine ⟨Below.refl _ _, ?_⟩; rfl
                    simp only [Act.put, List.setIfInBounds_toArray, List.set_cons_zero, List.set_cons_succ]
                    refine wpParts_det (by rfl) (fun W hE hN => ?_) ?_
                    · have hc := fun b o h => hE.cell (p := ⟨b, o, none⟩) h
                      go_simp; refine ⟨Below.refl _ _, ?_⟩; rfl
                    simp only [Act.put, List.setIfInBounds_toArray, List.set_cons_zero, List.set_cons_succ]
                    refine wpParts_det (by rfl) (fun W hE hN => ?_) ?_
                    · go_simp; refine ⟨Below.refl _ _, ?_⟩; rfl
                    simp only [Act.put, List.setIfInBounds_toArray, List.set_cons_zero, List.set_cons_succ]
                    refine wpParts_det (by rfl) (fun W hE hN => ?_) ?_
                    · go_simp; refine ⟨Below.refl _ _, ?_⟩; rfl
                    simp only [Act.put, List.setIfInBounds_toArray, List.set_cons_zero, List.set_cons_succ]
                    refine wpParts_det (by rfl) (fun W hE hN => ?_) ?_
                    · go_simp; refine ⟨Below.refl _ _, ?_⟩; rfl
                    simp only [Act.put, List.setIfInBounds_toArray, List.set_cons_zero, List.set_cons_succ]
                    refine wpParts_det (by rfl) (fun W hE hN => ?_) ?_
                    · have hc := fun b o h => hE.cell (p := ⟨b, o, none⟩) h
                      go_simp; refine ⟨Below.refl _ _, ?_⟩; rfl
                    simp only [Act.put, List.setIfInBounds_toArray, List.set_cons_zero, List.set_cons_succ]
                    refine wpParts_det (by rfl) (fun W hE hN => ?_) ?_
                    · have k1 := conv_bytes (HK2.out.ext hE) 22 9 5 Try.underlying22 Try.underlying5 Try.underlying9; go_simp; refine ⟨Below.refl _ _, ?_⟩; rfl
                    simp only [Act.put, List.setIfInBounds_toArray, List.set_cons_zero, List.set_cons_succ]
                    refine wpParts_det (by rfl) (fun W hE hN => ?_) ?_
                    · go_simp; refine ⟨Below.refl _ _, ?_⟩; rfl
                    simp only [Act.put, List.setIfInBounds_toArray, List.set_cons_zero, List.set_cons_succ]
                    refine wpParts_det (by rfl) (fun W hE hN => ?_) ?_
                    · go_simp; refine ⟨Below.refl _ _, ?_⟩; rfl
                    simp only [Act.put, List.setIfInBounds_toArray, List.set_cons_zero, List.set_cons_succ]
                    refine wpParts_det (by rfl) (fun W hE hN => ?_) ?_
                    · go_simp; refine ⟨Below.refl _ _, ?_⟩; rfl
                    simp only [Act.put, List.setIfInBounds_toArray, List.set_cons_zero, List.set_cons_succ]
                    refine wpParts_det (by rfl) (fun W hE hN => ?_) ?_
                    · have hc := fun b o h => hE.cell (p := ⟨b, o, none⟩) h
                      go_simp; refine ⟨Below.refl _ _, ?_⟩; rfl
                    simp only [Act.put, List.setIfInBounds_toArray, List.set_cons_zero, List.set_cons_succ]
                    refine wpParts_det (by rfl) (fun W hE hN => ?_) ?_
                    · go_simp; refine ⟨Below.refl _ _, ?_⟩; rfl
                    simp only [Act.put, List.setIfInBounds_toArray, List.set_cons_zero, List.set_cons_succ]
                    refine wpParts_det (by rfl) (fun W hE hN => ?_) ?_
                    · go_simp; refine ⟨Below.refl _ _, ?_⟩; rfl
                    simp only [Act.put, List.setIfInBounds_toArray, List.set_cons_zero, List.set_cons_succ]
                    refine wpParts_det (by rfl) (fun W hE hN => ?_) ?_
                    · go_simp; refine ⟨Below.refl _ _, ?_⟩; rfl
                    simp only [Act.put, List.setIfInBounds_toArray, List.set_cons_zero, List.set_cons_succ]
                    refine wpParts_det (by rfl) (fun W hE hN => ?_) ?_
                    · have hc := fun b o h => hE.cell (p := ⟨b, o, none⟩) h
                      go_simp; refine ⟨Below.refl _ _, ?_⟩; rfl
                    simp only [Act.put, List.setIfInBounds_toArray, List.set_cons_zero, List.set_cons_succ]
                    refine wpParts_det (by rfl) (fun W hE hN => ?_) ?_
                    · go_simp; refine ⟨Below.refl _ _, ?_⟩; rfl
                    simp only [Act.put, List.setIfInBounds_toArray, List.set_cons_zero, List.set_cons_succ]
                    refine wpParts_det (by rfl) (fun W hE hN => ?_) ?_
                    · have hc := fun b o h => hE.cell (p := ⟨b, o, none⟩) h
                      go_simp; refine ⟨Below.refl _ _, ?_⟩; rfl
                    simp only [Act.put, List.setIfInBounds_toArray, List.set_cons_zero, List.set_cons_succ]
                    refine wpParts_det (by rfl) (fun W hE hN => ?_) ?_
                    · go_simp; refine ⟨Below.refl _ _, ?_⟩; rfl
                    simp only [Act.put, List.setIfInBounds_toArray, List.set_cons_zero, List.set_cons_succ]
                    refine wpParts_det (by rfl) (fun W hE hN => ?_) ?_
                    · go_simp; refine ⟨Below.refl _ _, ?_⟩; rfl
                    simp only [Act.put, List.setIfInBounds_toArray, List.set_cons_zero, List.set_cons_succ]
                    refine wpParts_det (by rfl) (fun W hE hN => ?_) ?_
                    · go_simp; refine ⟨Below.refl _ _, ?_⟩; rfl
                    simp only [Act.put, List.setIfInBounds_toArray, List.set_cons_zero, List.set_cons_succ]
                    refine wpParts_det (by rfl) (fun W hE hN => ?_) ?_
                    · have hc := fun b o h => hE.cell (p := ⟨b, o, none⟩) h
                      go_simp; refine ⟨Below.refl _ _, ?_⟩; rfl
                    simp only [Act.put, List.setIfInBounds_toArray, List.set_cons_zero, List.set_cons_succ]
                    refine wpParts_det (by rfl) (fun W hE hN => ?_) ?_
                    · go_simp; refine ⟨Below.refl _ _, ?_⟩; rfl
                    simp only [Act.put, List.setIfInBounds_toArray, List.set_cons_zero, List.set_cons_succ]
                    refine wpParts_det (by rfl) (fun W hE hN => ?_) ?_
                    · go_simp; refine ⟨Below.refl _ _, ?_⟩; rfl
                    simp only [Act.put, List.setIfInBounds_toArray, List.set_cons_zero, List.set_cons_succ]
                    refine wpParts_det (by rfl) (fun W hE hN => ?_) ?_
                    · go_simp; refine ⟨Below.refl _ _, ?_⟩; rfl
                    simp only [Act.put, List.setIfInBounds_toArray, List.set_cons_zero, List.set_cons_succ]
                    refine wpParts_det (by rfl) (fun W hE hN => ?_) ?_
                    · go_simp; refine ⟨Below.refl _ _, ?_⟩; rfl
                    simp only [Act.put, List.setIfInBounds_toArray, List.set_cons_zero, List.set_cons_succ]
                    refine wpParts_det (by rfl) (fun W hE hN => ?_) ?_
                    · have hc := fun b o h => hE.cell (p := ⟨b, o, none⟩) h
                      go_simp; refine ⟨Below.refl _ _, ?_⟩; rfl
                    simp only [Act.put, List.setIfInBounds_toArray, List.set_cons_zero, List.set_cons_succ]
                    refine wpParts_det (by rfl) (fun W hE hN => ?_) ?_
                    · go_simp; refine ⟨Below.refl _ _, ?_⟩; rfl
                    simp only [Act.put, List.setIfInBounds_toArray, List.set_cons_zero, List.set_cons_succ]
                    refine wpParts_det (by rfl) (fun W hE hN => ?_) ?_
                    · go_simp; refine ⟨Below.refl _ _, ?_⟩; rfl
                    simp only [Act.put, List.setIfInBounds_toArray, List.set_cons_zero, List.set_cons_succ]
                    refine wpParts_det (by rfl) (fun W hE hN => ?_) ?_
                    · go_simp; refine ⟨Below.refl _ _, ?_⟩; rfl
                    simp only [Act.put, List.setIfInBounds_toArray, List.set_cons_zero, List.set_cons_succ]
                    refine wpParts_det (by rfl) (fun W hE hN => ?_) ?_
                    · have hc := fun b o h => hE.cell (p := ⟨b, o, none⟩) h
                      go_simp; refine ⟨Below.refl _ _, ?_⟩; rfl
                    simp only [Act.put, List.setIfInBounds_toArray, List.set_cons_zero, List.set_cons_succ]
                    refine wpParts_det (by rfl) (fun W hE hN => ?_) ?_
                    · go_simp; refine ⟨Below.refl _ _, ?_⟩; rfl
                    simp only [Act.put, List.setIfInBounds_toArray, List.set_cons_zero, List.set_cons_succ]
                    refine wpParts_det (by rfl) (fun W hE hN => ?_) ?_
                    · have hc := fun b o h => hE.cell (p := ⟨b, o, none⟩) h
                      go_simp; refine ⟨Below.refl _ _, ?_⟩; rfl
                    simp only [Act.put, List.setIfInBounds_toArray, List.set_cons_zero, List.set_cons_succ]
                    refine wpParts_det (by rfl) (fun W hE hN => ?_) ?_
                    · go_simp; refine ⟨Below.refl _ _, ?_⟩; rfl
                    simp only [Act.put, List.setIfInBounds_toArray, List.set_cons_zero, List.set_cons_succ]
                    refine wpParts_det (by rfl) (fun W hE hN => ?_) ?_
                    · go_simp; refine ⟨Below.refl _ _, ?_⟩; rfl
                    simp only [Act.put, List.setIfInBounds_toArray, List.set_cons_zero, List.set_cons_succ]
                    refine wpParts_det (by rfl) (fun W hE hN => ?_) ?_
                    · go_simp; refine ⟨Below.refl _ _, ?_⟩; rfl
                    simp only [Act.put, List.setIfInBounds_toArray, List.set_cons_zero, List.set_cons_succ]
                    refine wpParts_det (by rfl) (fun W hE hN => ?_) ?_
                    · have hc := fun b o h => hE.cell (p := ⟨b, o, none⟩) h
                      go_simp; refine ⟨Below.refl _ _, ?_⟩; rfl
                    simp only [Act.put, List.setIfInBounds_toArray, List.set_cons_zero, List.set_cons_succ]
                    refine wpParts_det (by rfl) (fun W hE hN => ?_) ?_
                    · go_simp; rw [ite_red, ht1]; refine ⟨Below.refl _ _, ?_⟩; rfl
                    simp only [Act.put, List.setIfInBounds_toArray, List.set_cons_zero, List.set_cons_succ]
                    refine wpParts_det (by rfl) (fun W hE hN => ?_) ?_
                    · go_simp; refine ⟨Below.refl _ _, ?_⟩; rfl
                    simp only [Act.put, List.setIfInBounds_toArray, List.set_cons_zero, List.set_cons_succ]
                    refine wpParts_end fun W1 hE1 hG1 => ?_
                    have hcW1 := fun b o h => hE1.cell (p := ⟨b, o, none⟩) h
                    have hfW1 := fun b o h => hE1.frozen (p := ⟨b, o, none⟩) h
                    have HB1 := Lib.hid (HB.out.trans (hE1.mono HB.out.size))
                    have HY1 := Lib.hid (HX1.out.ext hE1)
                    have HY2 := Lib.hid (HX2.out.ext hE1)
                    clear hE1 hG1 c1 c2
                    go_wp2_with fail
                    go_roundw
                    case rel => exact ⟨k + 1, HLT.out, by go_num, HST2.out, HY1.out, HY2.out, HB1.out⟩
                    case measure => simp [intOf]; omega
          · have hlt' : ¬ (k : Int) < (kl : Int) := by omega
            have HIS := Lib.hid (show sameR A B = true by
              have h := HST.out
              simp only [List.drop_zero] at h
              rw [HV2.out, h, List.drop_of_length_le (by have := E2.out; omega), List.drop_of_length_le (by have := E4.out; omega)]
              rfl)
            clear hlt hk hbel
            go_wp2
            go_ret
            exact ⟨ret_bool HIS.out.symm, HB.out⟩
end Go.Proofs.Ytfhhcpolicdfpaa
