/-
  The reference of layer 4: one, Same, walked.
  Layer 4: the program's way through a value, in plain, and the reference's.
  Layer 4: the program's test of one kind, and its measure, in plain.
  Layer 4: the program's test of one kind, walked.
  Layer 4: the program's test of an object, walked.
-/
import Derived.Test.YtmcmknndhppljaaDoorVbF
import Derived.Laws.BitsLemmas
import Derived.Test.YtmcmknndhppljaaDoorVbE
import Derived.WalkLawsBesides
import Derived.BigQuiet
import Derived.LoopN
namespace Go.Dav
set_option linter.unusedVariables false
set_option linter.unusedSimpArgs false
open Go Go.RowKit
theorem headD_drop {α : Type} (l : List α) (i : Nat) (d : α) : (l.drop i).headD d = l.getD i d := by
  rw [List.headD_eq_head?_getD, List.head?_drop]; rfl
theorem oneL_cons {K J : Type} (f : K → J → Bool) (k : Int) (x : K) (xs : List K) (y : J) (ys : List J) (ks js : List ByteArray) : oneL f k (x :: xs) (y :: ys) ks js = (((!decide (k = 6)) || (ks.headD default).toList == (js.headD default).toList) && (f x y && oneL f k xs ys ks.tail js.tail)) := rfl
theorem oneL_drop {K J : Type} {f : K → J → Bool} {k : Int} {xs : List K} {ys : List J} {ks js : List ByteArray} {i : Nat} {x : K} {y : J} (hx : xs[i]? = some x) (hy : ys[i]? = some y) :
    oneL f k (xs.drop i) (ys.drop i) (ks.drop i) (js.drop i) = (((!decide (k = 6)) || (ks.getD i default).toList == (js.getD i default).toList) && (f x y && oneL f k (xs.drop (i + 1)) (ys.drop (i + 1)) (ks.drop (i + 1)) (js.drop (i + 1)))) := by
  have hl := (List.getElem?_eq_some_iff.1 hx).1
  have hm := (List.getElem?_eq_some_iff.1 hy).1
  have e : xs.drop i = x :: xs.drop (i + 1) := by rw [List.drop_eq_getElem_cons hl, (List.getElem?_eq_some_iff.1 hx).2]
  have e2 : ys.drop i = y :: ys.drop (i + 1) := by rw [List.drop_eq_getElem_cons hm, (List.getElem?_eq_some_iff.1 hy).2]
  rw [e, e2, oneL_cons, headD_drop, headD_drop, List.tail_drop, List.tail_drop]
theorem withinL_good {K : Type} {f : K → Nat → Int → Nat} {g : K → Bool} {L : Nat} {m : Int} (hfg : ∀ y m, f y L m ≠ 0 → g y = true) : ∀ (l : List K) (n : Nat), withinL f L m l n ≠ 0 → l.all g = true
  | [], _, _ => rfl
  | y :: ys, n, h => by
    unfold withinL at h
    by_cases h0 : f y L (m - n) = 0
    · rw [if_pos h0] at h; exact absurd rfl h
    · rw [if_neg h0] at h
      rw [List.all_cons, hfg y _ h0, withinL_good hfg ys _ h]; rfl
theorem withinV_good : ∀ (d : Nat) (x : ValN d) (L : Nat) (m : Int), withinV d x L m ≠ 0 → goodV d x = true
  | 0, _, _, _, h => by unfold withinV at h; exact absurd rfl h
  | d + 1, x, L, m, h => by
    unfold withinV at h
    split at h
    · exact absurd rfl h
    · rename_i hc
      unfold goodV
      have h1 : aloneB x.to = true := by
        cases ha : aloneB x.to with
        | true => rfl
        | false => exact absurd (.inr (.inl ha)) hc
      rw [h1, Bool.true_and]
      exact withinL_good (fun y m => withinV_good d y (L - 1) m) _ _ h
theorem good_alone {d : Nat} {x : ValN (d + 1)} (h : goodV (d + 1) x = true) : aloneB x.to = true ∧ ∀ (i : Nat) (y : ValN d), x.to.kids[i]? = some y → goodV d y = true := by
  unfold goodV at h
  rw [Bool.and_eq_true] at h
  exact ⟨h.1, fun i y hy => List.all_eq_true.1 h.2 y (List.mem_of_getElem? hy)⟩
theorem alone_keys {K : Type} {x : ValF K} (h : aloneB x = true) (h6 : x.kind = 6) : x.keys.length = x.kids.length := by
  unfold aloneB at h
  rw [Bool.and_eq_true, h6] at h
  have h2 := h.2
  simp at h2
  omega
theorem oneV_eq {d e : Nat} (x : ValN (d + 1)) (y : ValN (e + 1)) : oneV (d + 1) (e + 1) x y = (decide (x.to.kind = y.to.kind) && (decide (x.to.n = y.to.n) && (x.to.s.toList == y.to.s.toList && (decide (x.to.kids.length = y.to.kids.length) && oneL (oneV d e) x.to.kind x.to.kids y.to.kids x.to.keys y.to.keys)))) := by
  conv => lhs; unfold oneV
end Go.Dav
namespace Go.Proofs.YtmcmknndhppljaaDoor
set_option linter.unusedVariables false
set_option linter.unusedSimpArgs false
open Go.RowKit Go.Dav
attribute [local go_sem] Gives ite_val ite_val_true

set_option maxRecDepth 8000 in
set_option maxHeartbeats 16000000 in
theorem Tryd_rOne : ∀ (d e : Nat) (x : ValN d) (y : ValN e) (v u : Value) (w : World), ValAt w d v x → ValAt w e u y → goodV d x = true → goodV e y = true →
    Calls Tryd.prog 53 #[v, u] w fun e' w' => e' = .returned (.bool (oneV d e x y)) ∧ Below w.heap.size w w'
  | 0, _, _, _, _, _, _, h, _, _, _ => h.elim
  | _ + 1, 0, _, _, _, _, _, _, h, _, _ => h.elim
  | d + 1, e + 1, x, y, v, u, w, hx, hy, hgx, hgy => by
    obtain ⟨ka, kl, kc, qa, ql, qc, h⟩ := hx
    obtain ⟨ma, ml, mc, ra, rl, rc, g⟩ := hy
    have IH := Lib.hid (Tryd_rOne d e)
    have HGX := Lib.hid (good_alone hgx)
    have HGY := Lib.hid (good_alone hgy)
    obtain ⟨r, hr⟩ : ∃ r, oneV (d + 1) (e + 1) x y = r := ⟨_, rfl⟩
    rw [hr]
    rw [oneV_eq] at hr
    obtain ⟨xf, hxf⟩ : ∃ xf, x.to = xf := ⟨_, rfl⟩
    obtain ⟨yf, hyf⟩ : ∃ yf, y.to = yf := ⟨_, rfl⟩
    rw [hxf] at h HGX hr
    rw [hyf] at g HGY hr
    clear hxf hyf hgx hgy
    have hv := h.val
    have hu := g.val
    have hkl := h.hlen
    have hml := g.hlen
    have hkf := h.hfew
    have hmf := g.hfew
    subst hv hu
    obtain ⟨kind, hkd⟩ : ∃ k, xf.kind = k := ⟨_, rfl⟩
    obtain ⟨n, hn⟩ : ∃ k, xf.n = k := ⟨_, rfl⟩
    obtain ⟨s, hs⟩ : ∃ k, xf.s = k := ⟨_, rfl⟩
    obtain ⟨kind', hkd'⟩ : ∃ k, yf.kind = k := ⟨_, rfl⟩
    obtain ⟨n', hn'⟩ : ∃ k, yf.n = k := ⟨_, rfl⟩
    obtain ⟨s', hs'⟩ : ∃ k, yf.s = k := ⟨_, rfl⟩
    rw [hkd, hn, hs, hkd', hn', hs']
    rw [hkd, hn, hs, hkd', hn', hs', hkl, hml] at hr
    obtain ⟨W0, hW0⟩ : ∃ W0, (w.alloc (.cells #[.int .i64 kind, .int .i64 n, .string s, .slice ka kl kc, .slice qa ql qc] 39)).alloc (.cells #[.int .i64 kind', .int .i64 n', .string s', .slice ma ml mc, .slice ra rl rc] 39) = W0 := ⟨_, rfl⟩
    have bel0 : Below w.heap.size w W0 := by rw [← hW0]; exact (by repeat (first | (with_reducible exact Below.refl _ _) | (with_reducible exact Below.refl _ _) | (with_reducible refine Below.setCell ?_ (by first | omega | (simp; done) | (simp; omega)) _) | (with_reducible refine Below.alloc ?_ (by first | omega | (simp; done) | (simp; omega)) _) | (with_reducible refine Below.drew ?_) | (with_reducible refine below_drewN ?_ _)))
    have HB0 := Lib.hid (show Blk W0 w.heap.size [.int .i64 kind, .int .i64 n, .string s, .slice ka kl kc, .slice qa ql qc] 39 by rw [← hW0]; exact (Blk.new _ _ _).alloc _)
    have HC0 := Lib.hid (show Blk W0 (w.heap.size + 1) [.int .i64 kind', .int .i64 n', .string s', .slice ma ml mc, .slice ra rl rc] 39 by rw [← hW0]; exact Blk.new' _ _ _ (by simp))
    have HX := Lib.hid (h.ext bel0 fun _ _ => ValAt.ext bel0 d)
    have HY := Lib.hid (g.ext bel0 fun _ _ => ValAt.ext bel0 e)
    have BEL0 := Lib.hid bel0
    have HKL := Lib.hid hkl
    have HML := Lib.hid hml
    have HK6 := Lib.hid (fun h6 => alone_keys HGX.out.1 (hkd.trans h6))
    have HJ6 := Lib.hid (fun h6 => alone_keys HGY.out.1 (hkd'.trans h6))
    have HR := Lib.hid hr
    have HW0 := Lib.hid hW0
    clear hr h g bel0 hkd hn hs hkd' hn' hs' hW0
    by_cases e1 : kind = kind'
    · subst e1
      by_cases e2 : n = n'
      · subst e2
        cases e3 : (s.toList == s'.toList) with
        | true =>
          by_cases e4 : kl = ml
          · subst e4
            have hr := HR.out
            rw [e3, decide_eq_true rfl, decide_eq_true rfl, decide_eq_true rfl] at hr
            simp only [Bool.true_and] at hr
            have HR2 := Lib.hid hr
            have d3 : (s.toList != s'.toList) = false := by rw [bne, e3]; rfl
            clear hr HR hkl hml
            go_enter Tryd.func53, Tryd.ntmps53
            go_wp2_with fail
            rw [HW0.out]
            go_loopw [5] (fun ix wr => ∃ i : Nat, i ≤ kl ∧ ix = .int .i64 (i : Int) ∧ oneL (oneV d e) kind (xf.kids.drop i) (yf.kids.drop i) (xf.keys.drop i) (yf.keys.drop i) = r ∧ Below W0.heap.size W0 wr) (fun ix _ => kl - (intOf ix).toNat)
            case atStart => exact ⟨0, Nat.zero_le _, by go_num, by simpa using HR2.out, Below.refl _ _⟩
            case round =>
              obtain ⟨i, hi, rfl, hor, hbr⟩ := hrel
              have HBr := Lib.hid (HB0.out.ext hbr)
              have HCr := Lib.hid (HC0.out.ext hbr)
              have HXr := Lib.hid (HX.out.ext hbr fun _ _ => ValAt.ext hbr d)
              have HYr := Lib.hid (HY.out.ext hbr fun _ _ => ValAt.ext hbr e)
              have BELr := Lib.hid hbr
              have HOR := Lib.hid hor
              have q1 := HBr.out.cells
              have l1 := HBr.out.lt
              have q2 := HCr.out.cells
              have l2 := HCr.out.lt
              clear hor hbr
              by_cases hlt : i < kl
              · obtain ⟨x1, hx1⟩ : ∃ y, xf.kids[i]? = some y := ⟨_, List.getElem?_eq_getElem (by have := HKL.out; omega)⟩
                obtain ⟨y1, hy1⟩ : ∃ y, yf.kids[i]? = some y := ⟨_, List.getElem?_eq_getElem (by have := HML.out; omega)⟩
                obtain ⟨b, o, u0, u1, u2, u3, u4, rfl, hb, c0, c1, c2, c3, c4, hv1⟩ := HXr.out.hkid i x1 hx1
                obtain ⟨b', o', t0, t1, t2, t3, t4, rfl, hb', k0, k1, k2, k3, k4, hv2⟩ := HYr.out.hkid i y1 hy1
                have hst := oneL_drop (f := oneV d e) (k := kind) (ks := xf.keys) (js := yf.keys) hx1 hy1
                have hor := HOR.out
                rw [hst] at hor
                obtain ⟨q, hq⟩ : ∃ q, oneV d e x1 y1 = q := ⟨_, rfl⟩
                rw [hq] at hor
                have HV1 := Lib.hid hv1
                have HV2 := Lib.hid hv2
                have HLT := Lib.hid hlt
                have HQ := Lib.hid hq
                have HG1 := Lib.hid (HGX.out.2 i x1 hx1)
                have HG2 := Lib.hid (HGY.out.2 i y1 hy1)
                have g1 : (i : Int) < (kl : Int) := by omega
                have CALL := Lib.hid (show ∀ W, Below wr.heap.size wr W → Calls Tryd.prog 53 #[.agg #[u0, u1, u2, u3, u4], .agg #[t0, t1, t2, t3, t4]] W fun e' w' => e' = .returned (.bool q) ∧ Below W.heap.size W w' from fun W hW => by
                  have h := IH.out x1 y1 _ _ W (ValAt.ext hW d HV1.out) (ValAt.ext hW e HV2.out) HG1.out HG2.out
                  rw [HQ.out] at h
                  exact h)
                clear hx1 hy1 hst hv1 hv2 hlt hi hq
                by_cases h6 : kind = 6
                · subst h6
                  obtain ⟨z1, hz1⟩ : ∃ z, xf.keys[i]? = some z := ⟨_, List.getElem?_eq_getElem (by have := HK6.out rfl; have := HKL.out; have := HLT.out; omega)⟩
                  obtain ⟨z2, hz2⟩ : ∃ z, yf.keys[i]? = some z := ⟨_, List.getElem?_eq_getElem (by have := HJ6.out rfl; have := HML.out; have := HLT.out; omega)⟩
                  obtain ⟨b1, o1, rfl, hb1, hz1c⟩ := HXr.out.keys.hat i z1 hz1
                  obtain ⟨b2, o2, rfl, hb2, hz2c⟩ := HYr.out.keys.hat i z2 hz2
                  have g2 : (i : Int) < (ql : Int) := by have h1 := HXr.out.keys.hlen; have h2 := HK6.out rfl; have := HKL.out; have := HLT.out; omega
                  have g3 : (i : Int) < (rl : Int) := by have h1 := HYr.out.keys.hlen; have h2 := HJ6.out rfl; have := HML.out; have := HLT.out; omega
                  rw [show xf.keys.getD i default = z1 by rw [List.getD, hz1]; rfl, show yf.keys.getD i default = z2 by rw [List.getD, hz2]; rfl] at hor
                  clear hz1 hz2
                  cases hzz : (z1.toList == z2.toList) with
                  | false =>
                    have e5 : r = false := by rw [← hor, hzz]; rfl
                    have d5 : (z1.toList != z2.toList) = true := by rw [bne, hzz]; rfl
                    clear hor HOR HR2
                    subst e5
                    go_wp2_with fail
                    refine' wp_region_seq [(Sum.inl _ : Piece), (Sum.inl _ : Piece), (Sum.inl _ : Piece), (Sum.inl _ : Piece), (Sum.inl _ : Piece), (Sum.inl _ : Piece), (Sum.inl _ : Piece), (Sum.inl _ : Piece), (Sum.inl _ : Piece), (Sum.inl _ : Piece), (Sum.inl _ : Piece), (Sum.inl _ : Piece), (Sum.inl _ : Piece), (Sum.inl _ : Piece), (Sum.inl _ : Piece), (Sum.inl _ : Piece), (Sum.inl _ : Piece), (Sum.inl undef : Piece), (Sum.inl undef : Piece), (Sum.inl undef : Piece), (Sum.inl undef : Piece), (Sum.inl undef : Piece), (Sum.inl undef : Piece), (Sum.inl undef : Piece), (Sum.inl undef : Piece), (Sum.inl undef : Piece), (Sum.inl undef : Piece), (Sum.inl undef : Piece), (Sum.inl undef : Piece), (Sum.inl _ : Piece)] (by kernel_rfl) (by kernel_rfl) ?main1
                    case main1 =>
                      refine wpParts_det (by rfl) (fun W hE hN => ?_) ?_
                      · go_simp; refine ⟨Below.refl _ _, ?_⟩; rfl
                      simp only [Act.put, List.setIfInBounds_toArray, List.set_cons_zero, List.set_cons_succ]
                      refine wpParts_det (by rfl) (fun W hE hN => ?_) ?_
                      · have hc := fun b o h => hE.cell (p := ⟨b, o, none⟩) h
                        go_simp; refine ⟨Below.refl _ _, ?_⟩; rfl
                      simp only [Act.put, List.setIfInBounds_toArray, List.set_cons_zero, List.set_cons_succ]
                      refine wpParts_det (by rfl) (fun W hE hN => ?_) ?_
                      · go_simp; refine ⟨Below.refl _ _, ?_⟩; rfl
                      simp only [Act.put, List.setIfInBounds_toArray, List.set_cons_zero, List.set_cons_succ]
                      refine wpParts_det (by rfl) (fun W hE hN => ?_) ?_
                      · go_simp; refine ⟨Below.refl _ _, ?_⟩; rfl
                      simp only [Act.put, List.setIfInBounds_toArray, List.set_cons_zero, List.set_cons_succ]
                      refine wpParts_det (by rfl) (fun W hE hN => ?_) ?_
                      · go_simp; refine ⟨Below.refl _ _, ?_⟩; rfl
                      simp only [Act.put, List.setIfInBounds_toArray, List.set_cons_zero, List.set_cons_succ]
                      refine wpParts_det (by rfl) (fun W hE hN => ?_) ?_
                      · have hc := fun b o h => hE.cell (p := ⟨b, o, none⟩) h
                        go_simp; refine ⟨Below.refl _ _, ?_⟩; rfl
                      simp only [Act.put, List.setIfInBounds_toArray, List.set_cons_zero, List.set_cons_succ]
                      refine wpParts_det (by rfl) (fun W hE hN => ?_) ?_
                      · go_simp; refine ⟨Below.refl _ _, ?_⟩; rfl
                      simp only [Act.put, List.setIfInBounds_toArray, List.set_cons_zero, List.set_cons_succ]
                      refine wpParts_det (by rfl) (fun W hE hN => ?_) ?_
                      · go_simp; refine ⟨Below.refl _ _, ?_⟩; rfl
                      simp only [Act.put, List.setIfInBounds_toArray, List.set_cons_zero, List.set_cons_succ]
                      refine wpParts_det (by rfl) (fun W hE hN => ?_) ?_
                      · have hc := fun b o h => hE.cell (p := ⟨b, o, none⟩) h
                        go_simp; refine ⟨Below.refl _ _, ?_⟩; rfl
                      simp only [Act.put, List.setIfInBounds_toArray, List.set_cons_zero, List.set_cons_succ]
                      refine wpParts_det (by rfl) (fun W hE hN => ?_) ?_
                      · go_simp; refine ⟨Below.refl _ _, ?_⟩; rfl
                      simp only [Act.put, List.setIfInBounds_toArray, List.set_cons_zero, List.set_cons_succ]
                      refine wpParts_det (by rfl) (fun W hE hN => ?_) ?_
                      · have hc := fun b o h => hE.cell (p := ⟨b, o, none⟩) h
                        go_simp; refine ⟨Below.refl _ _, ?_⟩; rfl
                      simp only [Act.put, List.setIfInBounds_toArray, List.set_cons_zero, List.set_cons_succ]
                      refine wpParts_det (by rfl) (fun W hE hN => ?_) ?_
                      · go_simp; refine ⟨Below.refl _ _, ?_⟩; rfl
                      simp only [Act.put, List.setIfInBounds_toArray, List.set_cons_zero, List.set_cons_succ]
                      refine wpParts_det (by rfl) (fun W hE hN => ?_) ?_
                      · go_simp; refine ⟨Below.refl _ _, ?_⟩; rfl
                      simp only [Act.put, List.setIfInBounds_toArray, List.set_cons_zero, List.set_cons_succ]
                      refine wpParts_det (by rfl) (fun W hE hN => ?_) ?_
                      · have hc := fun b o h => hE.cell (p := ⟨b, o, none⟩) h
                        go_simp; refine ⟨Below.refl _ _, ?_⟩; rfl
                      simp only [Act.put, List.setIfInBounds_toArray, List.set_cons_zero, List.set_cons_succ]
                      refine wpParts_det (by rfl) (fun W hE hN => ?_) ?_
                      · go_simp; refine ⟨Below.refl _ _, ?_⟩; rfl
                      simp only [Act.put, List.setIfInBounds_toArray, List.set_cons_zero, List.set_cons_succ]
                      refine wpParts_det (by rfl) (fun W hE hN => ?_) ?_
                      · go_simp; refine ⟨Below.refl _ _, ?_⟩; rfl
                      simp only [Act.put, List.setIfInBounds_toArray, List.set_cons_zero, List.set_cons_succ]
                      refine wpParts_det (by rfl) (fun W hE hN => ?_) ?_
                      · go_simp; refine ⟨Below.refl _ _, ?_⟩; rfl
                      simp only [Act.put, List.setIfInBounds_toArray, List.set_cons_zero, List.set_cons_succ]
                      refine wpParts_skip ?_ ?_
                      · rfl
                      simp only [Act.put, List.setIfInBounds_toArray, List.set_cons_zero, List.set_cons_succ]
                      refine wpParts_skip ?_ ?_
                      · rfl
                      simp only [Act.put, List.setIfInBounds_toArray, List.set_cons_zero, List.set_cons_succ]
                      refine wpParts_skip ?_ ?_
                      · rfl
                      simp only [Act.put, List.setIfInBounds_toArray, List.set_cons_zero, List.set_cons_succ]
                      refine wpParts_skip ?_ ?_
                      · rfl
                      simp only [Act.put, List.setIfInBounds_toArray, List.set_cons_zero, List.set_cons_succ]
                      refine wpParts_skip ?_ ?_
                      · rfl
                      simp only [Act.put, List.setIfInBounds_toArray, List.set_cons_zero, List.set_cons_succ]
                      refine wpParts_skip ?_ ?_
                      · rfl
                      simp only [Act.put, List.setIfInBounds_toArray, List.set_cons_zero, List.set_cons_succ]
                      refine wpParts_skip ?_ ?_
                      · rfl
                      simp only [Act.put, List.setIfInBounds_toArray, List.set_cons_zero, List.set_cons_succ]
                      refine wpParts_skip ?_ ?_
                      · rfl
                      simp only [Act.put, List.setIfInBounds_toArray, List.set_cons_zero, List.set_cons_succ]
                      refine wpParts_skip ?_ ?_
                      · rfl
                      simp only [Act.put, List.setIfInBounds_toArray, List.set_cons_zero, List.set_cons_succ]
                      refine wpParts_skip ?_ ?_
                      · rfl
                      simp only [Act.put, List.setIfInBounds_toArray, List.set_cons_zero, List.set_cons_succ]
                      refine wpParts_skip ?_ ?_
                      · rfl
                      simp only [Act.put, List.setIfInBounds_toArray, List.set_cons_zero, List.set_cons_succ]
                      refine wpParts_skip ?_ ?_
                      · rfl
                      simp only [Act.put, List.setIfInBounds_toArray, List.set_cons_zero, List.set_cons_succ]
                      refine wpParts_det (by rfl) (fun W hE hN => ?_) ?_
                      · go_simp; refine ⟨Below.refl _ _, ?_⟩; rfl
                      simp only [Act.put, List.setIfInBounds_toArray, List.set_cons_zero, List.set_cons_succ]
                      refine wpParts_end fun W2 hE2 hG2 => ?_
                      have hcW2 := fun b o h => hE2.cell (p := ⟨b, o, none⟩) h
                      have hfW2 := fun b o h => hE2.frozen (p := ⟨b, o, none⟩) h
                      have BEL := Lib.hid (BEL0.out.trans ((BELr.out.trans (hE2.mono BELr.out.size)).mono BEL0.out.size))
                      clear hE2 hcW2 hfW2 q1 l1 q2 l2
                      go_wp2
                      go_ret
                      exact ⟨rfl, BEL.out⟩
                  | true =>
                    have d5 : (z1.toList != z2.toList) = false := by rw [bne, hzz]; rfl
                    rw [hzz, Bool.or_true, Bool.true_and] at hor
                    have HO := Lib.hid hor
                    clear hor
                    go_wp2_with fail
                    refine' wp_region_seq [(Sum.inl _ : Piece), (Sum.inl _ : Piece), (Sum.inl _ : Piece), (Sum.inl _ : Piece), (Sum.inl _ : Piece), (Sum.inl _ : Piece), (Sum.inl _ : Piece), (Sum.inl _ : Piece), (Sum.inl _ : Piece), (Sum.inl _ : Piece), (Sum.inl _ : Piece), (Sum.inl _ : Piece), (Sum.inl _ : Piece), (Sum.inl _ : Piece), (Sum.inl _ : Piece), (Sum.inl _ : Piece), (Sum.inl _ : Piece), (Sum.inl _ : Piece), (Sum.inl _ : Piece), (Sum.inl _ : Piece), (Sum.inl _ : Piece), (Sum.inl _ : Piece), (Sum.inl _ : Piece), (Sum.inl _ : Piece), (Sum.inl _ : Piece), (Sum.inl _ : Piece), (Sum.inl _ : Piece), (Sum.inl _ : Piece), (Sum.inl _ : Piece), (Sum.inl _ : Piece)] (by kernel_rfl) (by kernel_rfl) ?main2
                    case main2 =>
                      refine wpParts_det (by rfl) (fun W hE hN => ?_) ?_
                      · go_simp; refine ⟨Below.refl _ _, ?_⟩; rfl
                      simp only [Act.put, List.setIfInBounds_toArray, List.set_cons_zero, List.set_cons_succ]
                      refine wpParts_det (by rfl) (fun W hE hN => ?_) ?_
                      · have hc := fun b o h => hE.cell (p := ⟨b, o, none⟩) h
                        go_simp; refine ⟨Below.refl _ _, ?_⟩; rfl
                      simp only [Act.put, List.setIfInBounds_toArray, List.set_cons_zero, List.set_cons_succ]
                      refine wpParts_det (by rfl) (fun W hE hN => ?_) ?_
                      · go_simp; refine ⟨Below.refl _ _, ?_⟩; rfl
                      simp only [Act.put, List.setIfInBounds_toArray, List.set_cons_zero, List.set_cons_succ]
                      refine wpParts_det (by rfl) (fun W hE hN => ?_) ?_
                      · go_simp; refine ⟨Below.refl _ _, ?_⟩; rfl
                      simp only [Act.put, List.setIfInBounds_toArray, List.set_cons_zero, List.set_cons_succ]
                      refine wpParts_det (by rfl) (fun W hE hN => ?_) ?_
                      · go_simp; refine ⟨Below.refl _ _, ?_⟩; rfl
                      simp only [Act.put, List.setIfInBounds_toArray, List.set_cons_zero, List.set_cons_succ]
                      refine wpParts_det (by rfl) (fun W hE hN => ?_) ?_
                      · have hc := fun b o h => hE.cell (p := ⟨b, o, none⟩) h
                        go_simp; refine ⟨Below.refl _ _, ?_⟩; rfl
                      simp only [Act.put, List.setIfInBounds_toArray, List.set_cons_zero, List.set_cons_succ]
                      refine wpParts_det (by rfl) (fun W hE hN => ?_) ?_
                      · go_simp; refine ⟨Below.refl _ _, ?_⟩; rfl
                      simp only [Act.put, List.setIfInBounds_toArray, List.set_cons_zero, List.set_cons_succ]
                      refine wpParts_det (by rfl) (fun W hE hN => ?_) ?_
                      · go_simp; refine ⟨Below.refl _ _, ?_⟩; rfl
                      simp only [Act.put, List.setIfInBounds_toArray, List.set_cons_zero, List.set_cons_succ]
                      refine wpParts_det (by rfl) (fun W hE hN => ?_) ?_
                      · have hc := fun b o h => hE.cell (p := ⟨b, o, none⟩) h
                        go_simp; refine ⟨Below.refl _ _, ?_⟩; rfl
                      simp only [Act.put, List.setIfInBounds_toArray, List.set_cons_zero, List.set_cons_succ]
                      refine wpParts_det (by rfl) (fun W hE hN => ?_) ?_
                      · go_simp; refine ⟨Below.refl _ _, ?_⟩; rfl
                      simp only [Act.put, List.setIfInBounds_toArray, List.set_cons_zero, List.set_cons_succ]
                      refine wpParts_det (by rfl) (fun W hE hN => ?_) ?_
                      · have hc := fun b o h => hE.cell (p := ⟨b, o, none⟩) h
                        go_simp; refine ⟨Below.refl _ _, ?_⟩; rfl
                      simp only [Act.put, List.setIfInBounds_toArray, List.set_cons_zero, List.set_cons_succ]
                      refine wpParts_det (by rfl) (fun W hE hN => ?_) ?_
                      · go_simp; refine ⟨Below.refl _ _, ?_⟩; rfl
                      simp only [Act.put, List.setIfInBounds_toArray, List.set_cons_zero, List.set_cons_succ]
                      refine wpParts_det (by rfl) (fun W hE hN => ?_) ?_
                      · go_simp; refine ⟨Below.refl _ _, ?_⟩; rfl
                      simp only [Act.put, List.setIfInBounds_toArray, List.set_cons_zero, List.set_cons_succ]
                      refine wpParts_det (by rfl) (fun W hE hN => ?_) ?_
                      · have hc := fun b o h => hE.cell (p := ⟨b, o, none⟩) h
                        go_simp; refine ⟨Below.refl _ _, ?_⟩; rfl
                      simp only [Act.put, List.setIfInBounds_toArray, List.set_cons_zero, List.set_cons_succ]
                      refine wpParts_det (by rfl) (fun W hE hN => ?_) ?_
                      · go_simp; refine ⟨Below.refl _ _, ?_⟩; rfl
                      simp only [Act.put, List.setIfInBounds_toArray, List.set_cons_zero, List.set_cons_succ]
                      refine wpParts_det (by rfl) (fun W hE hN => ?_) ?_
                      · go_simp; refine ⟨Below.refl _ _, ?_⟩; rfl
                      simp only [Act.put, List.setIfInBounds_toArray, List.set_cons_zero, List.set_cons_succ]
                      refine wpParts_det (by rfl) (fun W hE hN => ?_) ?_
                      · go_simp; refine ⟨Below.refl _ _, ?_⟩; rfl
                      simp only [Act.put, List.setIfInBounds_toArray, List.set_cons_zero, List.set_cons_succ]
                      refine wpParts_det (by rfl) (fun W hE hN => ?_) ?_
                      · go_simp; refine ⟨Below.refl _ _, ?_⟩; rfl
                      simp only [Act.put, List.setIfInBounds_toArray, List.set_cons_zero, List.set_cons_succ]
                      refine wpParts_det (by rfl) (fun W hE hN => ?_) ?_
                      · have hc := fun b o h => hE.cell (p := ⟨b, o, none⟩) h
                        go_simp; refine ⟨Below.refl _ _, ?_⟩; rfl
                      simp only [Act.put, List.setIfInBounds_toArray, List.set_cons_zero, List.set_cons_succ]
                      refine wpParts_det (by rfl) (fun W hE hN => ?_) ?_
                      · go_simp; refine ⟨Below.refl _ _, ?_⟩; rfl
                      simp only [Act.put, List.setIfInBounds_toArray, List.set_cons_zero, List.set_cons_succ]
                      refine wpParts_det (by rfl) (fun W hE hN => ?_) ?_
                      · go_simp; refine ⟨Below.refl _ _, ?_⟩; rfl
                      simp only [Act.put, List.setIfInBounds_toArray, List.set_cons_zero, List.set_cons_succ]
                      refine wpParts_det (by rfl) (fun W hE hN => ?_) ?_
                      · have hc := fun b o h => hE.cell (p := ⟨b, o, none⟩) h
                        go_simp; refine ⟨Below.refl _ _, ?_⟩; rfl
                      simp only [Act.put, List.setIfInBounds_toArray, List.set_cons_zero, List.set_cons_succ]
                      refine wpParts_det (by rfl) (fun W hE hN => ?_) ?_
                      · go_simp; refine ⟨Below.refl _ _, ?_⟩; rfl
                      simp only [Act.put, List.setIfInBounds_toArray, List.set_cons_zero, List.set_cons_succ]
                      refine wpParts_det (by rfl) (fun W hE hN => ?_) ?_
                      · have hc := fun b o h => hE.cell (p := ⟨b, o, none⟩) h
                        go_simp; refine ⟨Below.refl _ _, ?_⟩; rfl
                      simp only [Act.put, List.setIfInBounds_toArray, List.set_cons_zero, List.set_cons_succ]
                      refine wpParts_det (by rfl) (fun W hE hN => ?_) ?_
                      · go_simp; refine ⟨Below.refl _ _, ?_⟩; rfl
                      simp only [Act.put, List.setIfInBounds_toArray, List.set_cons_zero, List.set_cons_succ]
                      refine wpParts_det (by rfl) (fun W hE hN => ?_) ?_
                      · go_simp; refine ⟨Below.refl _ _, ?_⟩; rfl
                      simp only [Act.put, List.setIfInBounds_toArray, List.set_cons_zero, List.set_cons_succ]
                      refine wpParts_det (by rfl) (fun W hE hN => ?_) ?_
                      · have hc := fun b o h => hE.cell (p := ⟨b, o, none⟩) h
                        go_simp; refine ⟨Below.refl _ _, ?_⟩; rfl
                      simp only [Act.put, List.setIfInBounds_toArray, List.set_cons_zero, List.set_cons_succ]
                      refine wpParts_det (by rfl) (fun W hE hN => ?_) ?_
                      · go_simp; refine ⟨Below.refl _ _, ?_⟩; refine (CALL.out W hE).mono ?_; rintro e w' ⟨rfl, hb⟩; refine ⟨?_, hb⟩; rfl
                      simp only [Act.put, List.setIfInBounds_toArray, List.set_cons_zero, List.set_cons_succ]
                      refine wpParts_det (by rfl) (fun W hE hN => ?_) ?_
                      · go_simp; refine ⟨Below.refl _ _, ?_⟩; rfl
                      simp only [Act.put, List.setIfInBounds_toArray, List.set_cons_zero, List.set_cons_succ]
                      refine wpParts_det (by rfl) (fun W hE hN => ?_) ?_
                      · go_simp; refine ⟨Below.refl _ _, ?_⟩; rfl
                      simp only [Act.put, List.setIfInBounds_toArray, List.set_cons_zero, List.set_cons_succ]
                      refine wpParts_end fun W2 hE2 hG2 => ?_
                      have hcW2 := fun b o h => hE2.cell (p := ⟨b, o, none⟩) h
                      have hfW2 := fun b o h => hE2.frozen (p := ⟨b, o, none⟩) h
                      have BELw := Lib.hid (BELr.out.trans (hE2.mono BELr.out.size))
                      clear hE2 hcW2 hfW2 q1 l1 q2 l2 CALL
                      cases q with
                      | true =>
                        have HO2 := Lib.hid (show oneL (oneV d e) _ (xf.kids.drop (i + 1)) (yf.kids.drop (i + 1)) (xf.keys.drop (i + 1)) (yf.keys.drop (i + 1)) = r by have h := HO.out; rw [Bool.true_and] at h; exact h)
                        go_wp2_with fail
                        go_roundw
                        case rel => exact ⟨i + 1, HLT.out, by go_num, HO2.out, BELw.out⟩
                        case measure => have := HLT.out; simp [intOf]; omega
                      | false =>
                        have e7 : r = false := by rw [← HO.out, Bool.false_and]
                        have BEL := Lib.hid (BEL0.out.trans (BELw.out.mono BEL0.out.size))
                        clear HO HOR HR2
                        subst e7
                        go_wp2
                        go_ret
                        exact ⟨rfl, BEL.out⟩
                · have d6 : (kind == 6) = false := by simp [h6]
                  rw [decide_eq_false h6, Bool.not_false, Bool.true_or, Bool.true_and] at hor
                  have HO := Lib.hid hor
                  clear hor h6
                  go_wp2_with fail
                  refine' wp_region_seq [(Sum.inl _ : Piece), (Sum.inl _ : Piece), (Sum.inl _ : Piece), (Sum.inl _ : Piece), (Sum.inl undef : Piece), (Sum.inl undef : Piece), (Sum.inl undef : Piece), (Sum.inl undef : Piece), (Sum.inl undef : Piece), (Sum.inl undef : Piece), (Sum.inl undef : Piece), (Sum.inl undef : Piece), (Sum.inl undef : Piece), (Sum.inl undef : Piece), (Sum.inl undef : Piece), (Sum.inl _ : Piece), (Sum.inl _ : Piece), (Sum.inl _ : Piece), (Sum.inl _ : Piece), (Sum.inl _ : Piece), (Sum.inl _ : Piece), (Sum.inl _ : Piece), (Sum.inl _ : Piece), (Sum.inl _ : Piece), (Sum.inl _ : Piece), (Sum.inl _ : Piece), (Sum.inl _ : Piece), (Sum.inl _ : Piece), (Sum.inl _ : Piece), (Sum.inl _ : Piece)] (by kernel_rfl) (by kernel_rfl) ?main3
                  case main3 =>
                    refine wpParts_det (by rfl) (fun W hE hN => ?_) ?_
                    · go_simp; refine ⟨Below.refl _ _, ?_⟩; rfl
                    simp only [Act.put, List.setIfInBounds_toArray, List.set_cons_zero, List.set_cons_succ]
                    refine wpParts_det (by rfl) (fun W hE hN => ?_) ?_
                    · have hc := fun b o h => hE.cell (p := ⟨b, o, none⟩) h
                      go_simp; refine ⟨Below.refl _ _, ?_⟩; rfl
                    simp only [Act.put, List.setIfInBounds_toArray, List.set_cons_zero, List.set_cons_succ]
                    refine wpParts_det (by rfl) (fun W hE hN => ?_) ?_
                    · go_simp; refine ⟨Below.refl _ _, ?_⟩; rfl
                    simp only [Act.put, List.setIfInBounds_toArray, List.set_cons_zero, List.set_cons_succ]
                    refine wpParts_det (by rfl) (fun W hE hN => ?_) ?_
                    · go_simp; refine ⟨Below.refl _ _, ?_⟩; rfl
                    simp only [Act.put, List.setIfInBounds_toArray, List.set_cons_zero, List.set_cons_succ]
                    refine wpParts_skip ?_ ?_
                    · rfl
                    simp only [Act.put, List.setIfInBounds_toArray, List.set_cons_zero, List.set_cons_succ]
                    refine wpParts_skip ?_ ?_
                    · rfl
                    simp only [Act.put, List.setIfInBounds_toArray, List.set_cons_zero, List.set_cons_succ]
                    refine wpParts_skip ?_ ?_
                    · rfl
                    simp only [Act.put, List.setIfInBounds_toArray, List.set_cons_zero, List.set_cons_succ]
                    refine wpParts_skip ?_ ?_
                    · rfl
                    simp only [Act.put, List.setIfInBounds_toArray, List.set_cons_zero, List.set_cons_succ]
                    refine wpParts_skip ?_ ?_
                    · rfl
                    simp only [Act.put, List.setIfInBounds_toArray, List.set_cons_zero, List.set_cons_succ]
                    refine wpParts_skip ?_ ?_
                    · rfl
                    simp only [Act.put, List.setIfInBounds_toArray, List.set_cons_zero, List.set_cons_succ]
                    refine wpParts_skip ?_ ?_
                    · rfl
                    simp only [Act.put, List.setIfInBounds_toArray, List.set_cons_zero, List.set_cons_succ]
                    refine wpParts_skip ?_ ?_
                    · rfl
                    simp only [Act.put, List.setIfInBounds_toArray, List.set_cons_zero, List.set_cons_succ]
                    refine wpParts_skip ?_ ?_
                    · rfl
                    simp only [Act.put, List.setIfInBounds_toArray, List.set_cons_zero, List.set_cons_succ]
                    refine wpParts_skip ?_ ?_
                    · rfl
                    simp only [Act.put, List.setIfInBounds_toArray, List.set_cons_zero, List.set_cons_succ]
                    refine wpParts_skip ?_ ?_
                    · rfl
                    simp only [Act.put, List.setIfInBounds_toArray, List.set_cons_zero, List.set_cons_succ]
                    refine wpParts_det (by rfl) (fun W hE hN => ?_) ?_
                    · go_simp; refine ⟨Below.refl _ _, ?_⟩; rfl
                    simp only [Act.put, List.setIfInBounds_toArray, List.set_cons_zero, List.set_cons_succ]
                    refine wpParts_det (by rfl) (fun W hE hN => ?_) ?_
                    · go_simp; refine ⟨Below.refl _ _, ?_⟩; rfl
                    simp only [Act.put, List.setIfInBounds_toArray, List.set_cons_zero, List.set_cons_succ]
                    refine wpParts_det (by rfl) (fun W hE hN => ?_) ?_
                    · go_simp; refine ⟨Below.refl _ _, ?_⟩; rfl
                    simp only [Act.put, List.setIfInBounds_toArray, List.set_cons_zero, List.set_cons_succ]
                    refine wpParts_det (by rfl) (fun W hE hN => ?_) ?_
                    · have hc := fun b o h => hE.cell (p := ⟨b, o, none⟩) h
                      go_simp; refine ⟨Below.refl _ _, ?_⟩; rfl
                    simp only [Act.put, List.setIfInBounds_toArray, List.set_cons_zero, List.set_cons_succ]
                    refine wpParts_det (by rfl) (fun W hE hN => ?_) ?_
                    · go_simp; refine ⟨Below.refl _ _, ?_⟩; rfl
                    simp only [Act.put, List.setIfInBounds_toArray, List.set_cons_zero, List.set_cons_succ]
                    refine wpParts_det (by rfl) (fun W hE hN => ?_) ?_
                    · go_simp; refine ⟨Below.refl _ _, ?_⟩; rfl
                    simp only [Act.put, List.setIfInBounds_toArray, List.set_cons_zero, List.set_cons_succ]
                    refine wpParts_det (by rfl) (fun W hE hN => ?_) ?_
                    · have hc := fun b o h => hE.cell (p := ⟨b, o, none⟩) h
                      go_simp; refine ⟨Below.refl _ _, ?_⟩; rfl
                    simp only [Act.put, List.setIfInBounds_toArray, List.set_cons_zero, List.set_cons_succ]
                    refine wpParts_det (by rfl) (fun W hE hN => ?_) ?_
                    · go_simp; refine ⟨Below.refl _ _, ?_⟩; rfl
                    simp only [Act.put, List.setIfInBounds_toArray, List.set_cons_zero, List.set_cons_succ]
                    refine wpParts_det (by rfl) (fun W hE hN => ?_) ?_
                    · have hc := fun b o h => hE.cell (p := ⟨b, o, none⟩) h
                      go_simp; refine ⟨Below.refl _ _, ?_⟩; rfl
                    simp only [Act.put, List.setIfInBounds_toArray, List.set_cons_zero, List.set_cons_succ]
                    refine wpParts_det (by rfl) (fun W hE hN => ?_) ?_
                    · go_simp; refine ⟨Below.refl _ _, ?_⟩; rfl
                    simp only [Act.put, List.setIfInBounds_toArray, List.set_cons_zero, List.set_cons_succ]
                    refine wpParts_det (by rfl) (fun W hE hN => ?_) ?_
                    · go_simp; refine ⟨Below.refl _ _, ?_⟩; rfl
                    simp only [Act.put, List.setIfInBounds_toArray, List.set_cons_zero, List.set_cons_succ]
                    refine wpParts_det (by rfl) (fun W hE hN => ?_) ?_
                    · have hc := fun b o h => hE.cell (p := ⟨b, o, none⟩) h
                      go_simp; refine ⟨Below.refl _ _, ?_⟩; rfl
                    simp only [Act.put, List.setIfInBounds_toArray, List.set_cons_zero, List.set_cons_succ]
                    refine wpParts_det (by rfl) (fun W hE hN => ?_) ?_
                    · go_simp; refine ⟨Below.refl _ _, ?_⟩; refine (CALL.out W hE).mono ?_; rintro e w' ⟨rfl, hb⟩; refine ⟨?_, hb⟩; rfl
                    simp only [Act.put, List.setIfInBounds_toArray, List.set_cons_zero, List.set_cons_succ]
                    refine wpParts_det (by rfl) (fun W hE hN => ?_) ?_
                    · go_simp; refine ⟨Below.refl _ _, ?_⟩; rfl
                    simp only [Act.put, List.setIfInBounds_toArray, List.set_cons_zero, List.set_cons_succ]
                    refine wpParts_det (by rfl) (fun W hE hN => ?_) ?_
                    · go_simp; refine ⟨Below.refl _ _, ?_⟩; rfl
                    simp only [Act.put, List.setIfInBounds_toArray, List.set_cons_zero, List.set_cons_succ]
                    refine wpParts_end fun W2 hE2 hG2 => ?_
                    have hcW2 := fun b o h => hE2.cell (p := ⟨b, o, none⟩) h
                    have hfW2 := fun b o h => hE2.frozen (p := ⟨b, o, none⟩) h
                    have BELw := Lib.hid (BELr.out.trans (hE2.mono BELr.out.size))
                    clear hE2 hcW2 hfW2 q1 l1 q2 l2 CALL
                    cases q with
                    | true =>
                      have HO2 := Lib.hid (show oneL (oneV d e) _ (xf.kids.drop (i + 1)) (yf.kids.drop (i + 1)) (xf.keys.drop (i + 1)) (yf.keys.drop (i + 1)) = r by have h := HO.out; rw [Bool.true_and] at h; exact h)
                      go_wp2_with fail
                      go_roundw
                      case rel => exact ⟨i + 1, HLT.out, by go_num, HO2.out, BELw.out⟩
                      case measure => have := HLT.out; simp [intOf]; omega
                    | false =>
                      have e7 : r = false := by rw [← HO.out, Bool.false_and]
                      have BEL := Lib.hid (BEL0.out.trans (BELw.out.mono BEL0.out.size))
                      clear HO HOR HR2
                      subst e7
                      go_wp2
                      go_ret
                      exact ⟨rfl, BEL.out⟩
              · have g1 : ¬ (i : Int) < (kl : Int) := by omega
                have e5 : r = true := by
                  have h := HOR.out
                  rw [List.drop_eq_nil_of_le (by have := HKL.out; omega)] at h
                  exact h.symm
                have BEL := Lib.hid (BEL0.out.trans (BELr.out.mono BEL0.out.size))
                clear HOR HR2 hlt hi
                subst e5
                go_wp2
                go_ret
                exact ⟨rfl, by have h := BEL.out; exact (by repeat (first | (with_reducible exact Below.refl _ _) | (with_reducible exact Below.refl _ _) | (with_reducible refine Below.setCell ?_ (by first | omega | (simp; done) | (simp; omega)) _) | (with_reducible refine Below.alloc ?_ (by first | omega | (simp; done) | (simp; omega)) _) | (with_reducible refine Below.drew ?_) | (with_reducible refine below_drewN ?_ _) | (with_reducible refine Below.trans ?_ (h.mono (by first | omega | (simp; done) | (simp; omega))))))⟩
          · have d4 : ((kl : Int) != (ml : Int)) = true := by simp; omega
            have e : r = false := by rw [← HR.out, decide_eq_false e4]; simp
            have d3 : (s.toList != s'.toList) = false := by rw [bne, e3]; rfl
            clear HR e4 hkl hml
            subst e
            go_enter Tryd.func53, Tryd.ntmps53
            go_wp2
            go_ret
            exact ⟨rfl, (by repeat (first | (with_reducible exact Below.refl _ _) | (with_reducible exact Below.refl _ _) | (with_reducible refine Below.setCell ?_ (by first | omega | (simp; done) | (simp; omega)) _) | (with_reducible refine Below.alloc ?_ (by first | omega | (simp; done) | (simp; omega)) _) | (with_reducible refine Below.drew ?_) | (with_reducible refine below_drewN ?_ _)))⟩
        | false =>
          have d3 : (s.toList != s'.toList) = true := by rw [bne, e3]; rfl
          have e : r = false := by rw [← HR.out, e3]; simp
          clear HR hkl hml
          subst e
          go_enter Tryd.func53, Tryd.ntmps53
          go_wp2
          go_ret
          exact ⟨rfl, (by repeat (first | (with_reducible exact Below.refl _ _) | (with_reducible exact Below.refl _ _) | (with_reducible refine Below.setCell ?_ (by first | omega | (simp; done) | (simp; omega)) _) | (with_reducible refine Below.alloc ?_ (by first | omega | (simp; done) | (simp; omega)) _) | (with_reducible refine Below.drew ?_) | (with_reducible refine below_drewN ?_ _)))⟩
      · have d2 : (n != n') = true := by simp [e2]
        have e : r = false := by rw [← HR.out, decide_eq_false e2]; simp
        clear HR e2 hkl hml
        subst e
        go_enter Tryd.func53, Tryd.ntmps53
        go_wp2
        go_ret
        exact ⟨rfl, (by repeat (first | (with_reducible exact Below.refl _ _) | (with_reducible exact Below.refl _ _) | (with_reducible refine Below.setCell ?_ (by first | omega | (simp; done) | (simp; omega)) _) | (with_reducible refine Below.alloc ?_ (by first | omega | (simp; done) | (simp; omega)) _) | (with_reducible refine Below.drew ?_) | (with_reducible refine below_drewN ?_ _)))⟩
    · have d1 : (kind != kind') = true := by simp [e1]
      have e : r = false := by rw [← HR.out, decide_eq_false e1]; rfl
      clear HR e1 hkl hml
      subst e
      go_enter Tryd.func53, Tryd.ntmps53
      go_wp2
      go_ret
      exact ⟨rfl, (by repeat (first | (with_reducible exact Below.refl _ _) | (with_reducible exact Below.refl _ _) | (with_reducible refine Below.setCell ?_ (by first | omega | (simp; done) | (simp; omega)) _) | (with_reducible refine Below.alloc ?_ (by first | omega | (simp; done) | (simp; omega)) _) | (with_reducible refine Below.drew ?_) | (with_reducible refine below_drewN ?_ _)))⟩
end Go.Proofs.YtmcmknndhppljaaDoor

namespace Go.Dav
set_option linter.unusedVariables false
set_option linter.unusedSimpArgs false
open Go Go.RowKit
/-- A value without a look at its kids. -/
def topF {K : Type} (x : ValF K) : ValF Unit := ⟨x.kind, x.n, x.s, x.kids.map (fun _ => ()), x.keys⟩
theorem topF_alone {K : Type} (x : ValF K) : aloneB (topF x) = aloneB x := by
  unfold aloneB topF
  simp only [List.length_map]
/-- A value, and all that is within it, each with how many hold it. -/
def allV : (d : Nat) → Nat → ValN d → List (Nat × ValF Unit)
  | 0, L, _ => [(L, ⟨0, 0, default, [], []⟩)]
  | d + 1, L, x => (L, topF x.to) :: (x.to.kids.map (allV d (L + 1))).flatten
theorem allV_succ {d : Nat} (L : Nat) (x : ValN (d + 1)) : allV (d + 1) L x = (L, topF x.to) :: (x.to.kids.map (allV d (L + 1))).flatten := rfl
/-- Has a kind kids? -/
def holdsB (k : Int) : Bool := decide (k = 5) || decide (k = 6)
/-- Depth and nodes, one value on. -/
def metStep (s : Nat × Nat) (m : Nat × ValF Unit) : Nat × Nat := (if holdsB m.2.kind = true then max s.1 (m.1 + 1) else s.1, s.2 + 1)
def metOk (s : Nat × Nat) (m : Nat × ValF Unit) : Bool := decide (s.2 ≤ 256) && (decide (s.1 ≤ 8) && aloneB m.2)
/-- What is measured, up to what may not be. -/
def metGo : Nat × Nat → List (Nat × ValF Unit) → (Nat × Nat) × Bool
  | s, [] => (s, true)
  | s, m :: l => if metOk (metStep s m) m = true then metGo (metStep s m) l else (metStep s m, false)
def measV (d : Nat) (x : ValN d) : (Nat × Nat) × Bool := metGo (0, 0) (allV d 0 x)
/-- How many lists and objects stand within one another. -/
def depthV : (d : Nat) → ValN d → Nat
  | 0, _ => 0
  | d + 1, x => if x.to.kind < 5 then 0 else ((x.to.kids.map (depthV d)).foldr max 0) + 1
/-- How many values there are. -/
def nodesV : (d : Nat) → ValN d → Nat
  | 0, _ => 0
  | d + 1, x => 1 + (x.to.kids.map (nodesV d)).sum
theorem metGo_cons (s : Nat × Nat) (m : Nat × ValF Unit) (l : List (Nat × ValF Unit)) : metGo s (m :: l) = if metOk (metStep s m) m = true then metGo (metStep s m) l else (metStep s m, false) := rfl
theorem metGo_append : ∀ (l r : List (Nat × ValF Unit)) (s : Nat × Nat), metGo s (l ++ r) = if (metGo s l).2 = true then metGo (metGo s l).1 r else metGo s l
  | [], r, s => by simp [metGo]
  | m :: l, r, s => by
    rw [List.cons_append, metGo_cons, metGo_cons]
    by_cases h : metOk (metStep s m) m = true
    · rw [if_pos h, if_pos h]; exact metGo_append l r _
    · rw [if_neg h, if_neg h]; simp
theorem metGo_snoc {s : Nat × Nat} {l : List (Nat × ValF Unit)} {m : Nat × ValF Unit} (h : (metGo s l).2 = true) : metGo s (l ++ [m]) = (metStep (metGo s l).1 m, metOk (metStep (metGo s l).1 m) m) := by
  rw [metGo_append, if_pos h, metGo_cons]
  cases hk : metOk (metStep (metGo s l).1 m) m with
  | true => rw [if_pos rfl]; rfl
  | false => rw [if_neg (by decide)]
/-- Levels do not go far, where all that came may be. -/
def Lev (l : List (Nat × ValF Unit)) : Prop := ∀ s pre m post, l = pre ++ m :: post → (metGo s pre).2 = true → m.1 ≤ 8
theorem Lev.nil_ : Lev [] := fun s pre m post h _ => by
  have := congrArg List.length h
  simp at this
theorem Lev.append {l r : List (Nat × ValF Unit)} (h : Lev l) (k : Lev r) : Lev (l ++ r) := fun s pre m post e hg => by
  rcases List.append_eq_append_iff.1 e with ⟨a, h1, h2⟩ | ⟨c, h1, h2⟩
  · -- pre = l ++ a, r = a ++ m :: post
    rw [h1, metGo_append] at hg
    by_cases hl : (metGo s l).2 = true
    · rw [if_pos hl] at hg
      exact k _ a m post h2 hg
    · rw [if_neg hl] at hg; exact (hl hg).elim
  · -- l = pre ++ c, m :: post = c ++ r
    cases c with
    | nil =>
      rw [List.append_nil] at h1
      rw [List.nil_append] at h2
      subst h1
      exact k (metGo s l).1 [] m post h2.symm (by simp [metGo])
    | cons y ys =>
      rw [List.cons_append] at h2
      injection h2 with h3 h4
      subst h3
      exact h s pre m ys h1 hg
theorem Lev.flatten {K : Type} {f : K → List (Nat × ValF Unit)} : ∀ (l : List K), (∀ x ∈ l, Lev (f x)) → Lev (l.map f).flatten
  | [], _ => Lev.nil_
  | x :: l, h => by
    rw [List.map_cons, List.flatten_cons]
    exact (h x (List.mem_cons_self ..)).append (Lev.flatten l fun y hy => h y (List.mem_cons_of_mem _ hy))
theorem alone_holds {K : Type} {x : ValF K} (h : aloneB x = true) (hk : 5 ≤ x.kind) : holdsB x.kind = true := by
  unfold aloneB at h
  rw [Bool.and_eq_true] at h
  have h2 := h.2
  unfold holdsB
  simp only [Bool.or_eq_true, decide_eq_true_eq]
  by_cases h5 : x.kind = 5
  · exact .inl h5
  by_cases h6 : x.kind = 6
  · exact .inr h6
  rw [if_neg (by omega), if_neg (by omega), if_neg (by omega), if_neg (by omega), if_neg h5, if_neg h6] at h2
  cases h2
theorem holdsB_le {k : Int} : holdsB k = true → 5 ≤ k := by
  unfold holdsB
  simp only [Bool.or_eq_true, decide_eq_true_eq]
  omega
theorem allV_lev : ∀ (d : Nat) (x : ValN d) (L : Nat), L ≤ 8 → Lev (allV d L x)
  | 0, _, L, hL => fun s pre m post e hg => by
    have e : [(L, (⟨0, 0, default, [], []⟩ : ValF Unit))] = pre ++ m :: post := e
    cases pre with
    | nil =>
      rw [List.nil_append] at e
      injection e with e1 e2
      rw [← e1]; exact hL
    | cons p ps =>
      have := congrArg List.length e
      simp at this
  | d + 1, x, L, hL => fun s pre m post e hg => by
    rw [allV_succ] at e
    cases pre with
    | nil =>
      rw [List.nil_append] at e
      injection e with e1 e2
      rw [← e1]; exact hL
    | cons p ps =>
      rw [List.cons_append] at e
      injection e with e1 e2
      subst e1
      rw [metGo_cons] at hg
      by_cases hk : metOk (metStep s (L, topF x.to)) (L, topF x.to) = true
      · rw [if_pos hk] at hg
        unfold metOk at hk
        simp only [Bool.and_eq_true, decide_eq_true_eq] at hk
        obtain ⟨_, k2, k3⟩ := hk
        rw [topF_alone] at k3
        by_cases h0 : x.to.kids.length = 0
        · have : x.to.kids = [] := List.length_eq_zero_iff.1 h0
          rw [this] at e2
          have := congrArg List.length e2
          simp at this
        · have h5 := alone_holds k3 (alone_kids k3 h0)
          have hL8 : L + 1 ≤ 8 := by
            have h5' : holdsB (topF x.to).kind = true := h5
            unfold metStep at k2
            rw [if_pos h5'] at k2
            dsimp only at k2
            omega
          exact Lev.flatten x.to.kids (fun y _ => allV_lev d y (L + 1) hL8) _ ps m post e2 hg
      · rw [if_neg hk] at hg; cases hg
theorem meas_list {d : Nat} (hd : ∀ (x : ValN d) (L D n : Nat), L ≤ 8 → L ≤ D → D ≤ 8 → n ≤ 256 →
      (withinV d x (8 - L) (256 - (n : Int)) ≠ 0 → metGo (D, n) (allV d L x) = ((max D (L + depthV d x), n + withinV d x (8 - L) (256 - (n : Int))), true) ∧ L + depthV d x ≤ 8) ∧
      (withinV d x (8 - L) (256 - (n : Int)) = 0 → (metGo (D, n) (allV d L x)).2 = false)) (L n : Nat) (hL : L ≤ 8) :
    ∀ (l : List (ValN d)) (D k : Nat), L ≤ D → D ≤ 8 → n + k ≤ 256 → 1 ≤ k →
      (withinL (withinV d) (8 - L) (256 - (n : Int)) l k ≠ 0 → metGo (D, n + k) (l.map (allV d L)).flatten = ((max D (L + (l.map (depthV d)).foldr max 0), n + withinL (withinV d) (8 - L) (256 - (n : Int)) l k), true) ∧ L + (l.map (depthV d)).foldr max 0 ≤ 8) ∧
      (withinL (withinV d) (8 - L) (256 - (n : Int)) l k = 0 → (metGo (D, n + k) (l.map (allV d L)).flatten).2 = false)
  | [], D, k, h1, h2, h3, h4 => by
    refine ⟨fun _ => ⟨?_, by simpa using hL⟩, fun h => ?_⟩
    · show ((D, n + k), true) = ((max D (L + 0), n + k), true)
      rw [Nat.max_eq_left (by omega)]
    · have : k = 0 := h
      omega
  | y :: ys, D, k, h1, h2, h3, h4 => by
    have hy := hd y L D (n + k) hL h1 h2 h3
    rw [show (256 : Int) - ((n + k : Nat) : Int) = 256 - (n : Int) - (k : Int) by omega] at hy
    have hle := withinV_le d y (8 - L) (256 - (n : Int) - (k : Int))
    obtain ⟨a, ha⟩ : ∃ a, withinV d y (8 - L) (256 - (n : Int) - (k : Int)) = a := ⟨_, rfl⟩
    have e : withinL (withinV d) (8 - L) (256 - (n : Int)) (y :: ys) k = if a = 0 then 0 else withinL (withinV d) (8 - L) (256 - (n : Int)) ys (k + a) := by rw [← ha]; rfl
    rw [ha] at hy hle
    rw [e, List.map_cons, List.map_cons, List.flatten_cons, List.foldr_cons, metGo_append]
    by_cases h0 : a = 0
    · rw [if_pos h0]
      have hf := hy.2 h0
      refine ⟨fun h => (h rfl).elim, fun _ => ?_⟩
      rw [if_neg (by rw [hf]; decide)]
      exact hf
    · rw [if_neg h0]
      obtain ⟨g1, g2⟩ := hy.1 h0
      rw [g1]
      rw [if_pos rfl]
      have ih := meas_list hd L n hL ys (max D (L + depthV d y)) (k + a) (by omega) (by omega) (by omega) (by omega)
      rw [← Nat.add_assoc] at ih
      refine ⟨fun h => ?_, fun h => ih.2 h⟩
      obtain ⟨i1, i2⟩ := ih.1 h
      refine ⟨?_, by omega⟩
      rw [i1]
      congr 2
      omega
theorem meas_within : ∀ (d : Nat) (x : ValN d) (L D n : Nat), L ≤ 8 → L ≤ D → D ≤ 8 → n ≤ 256 →
      (withinV d x (8 - L) (256 - (n : Int)) ≠ 0 → metGo (D, n) (allV d L x) = ((max D (L + depthV d x), n + withinV d x (8 - L) (256 - (n : Int))), true) ∧ L + depthV d x ≤ 8) ∧
      (withinV d x (8 - L) (256 - (n : Int)) = 0 → (metGo (D, n) (allV d L x)).2 = false)
  | 0, x, L, D, n, _, _, _, _ => by
    refine ⟨fun h => (h rfl).elim, fun _ => ?_⟩
    show (metGo (D, n) [(L, (⟨0, 0, default, [], []⟩ : ValF Unit))]).2 = false
    rw [metGo_cons, if_neg]
    have : aloneB (⟨0, 0, default, [], []⟩ : ValF Unit) = false := by simp [aloneB]
    unfold metOk
    dsimp only
    rw [this]
    simp
  | d + 1, x, L, D, n, hL, h1, h2, h3 => by
    rw [allV_succ, metGo_cons]
    obtain ⟨s, hs⟩ : ∃ s, metStep (D, n) (L, topF x.to) = s := ⟨_, rfl⟩
    have hs1 : s.1 = if holdsB x.to.kind = true then max D (L + 1) else D := by rw [← hs]; rfl
    have hs2 : s.2 = n + 1 := by rw [← hs]; rfl
    rw [hs]
    by_cases hno : (256 - (n : Int)) < 1 ∨ aloneB x.to = false ∨ (5 ≤ x.to.kind ∧ 8 - L = 0)
    · rw [withinV_no hno]
      refine ⟨fun h => (h rfl).elim, fun _ => ?_⟩
      rw [if_neg]
      intro hk
      unfold metOk at hk
      simp only [Bool.and_eq_true, decide_eq_true_eq] at hk
      obtain ⟨k1, k2, k3⟩ := hk
      rw [topF_alone] at k3
      rcases hno with h | h | ⟨h, h'⟩
      · omega
      · rw [h] at k3; cases k3
      · rw [if_pos (alone_holds k3 h)] at hs1
        omega
    · rw [withinV_yes hno]
      have k0 : ¬ (256 - (n : Int)) < 1 := fun h => hno (.inl h)
      have k3 : aloneB x.to = true := by
        cases h : aloneB x.to with
        | true => rfl
        | false => exact (hno (.inr (.inl h))).elim
      have k4 : 5 ≤ x.to.kind → L ≤ 7 := fun h => by
        by_cases h' : 8 - L = 0
        · exact (hno (.inr (.inr ⟨h, h'⟩))).elim
        · omega
      have hok : metOk s (L, topF x.to) = true := by
        unfold metOk
        simp only [Bool.and_eq_true, decide_eq_true_eq]
        refine ⟨by omega, ?_, by rw [topF_alone]; exact k3⟩
        rw [hs1]
        split
        · rename_i hh
          have := k4 (holdsB_le hh)
          omega
        · omega
      rw [if_pos hok]
      have hs' : s = (s.1, n + 1) := by rw [← hs2]
      rw [hs']
      by_cases hk : x.to.kind < 5
      · have hh : ¬ holdsB x.to.kind = true := fun h => by have := holdsB_le h; omega
        rw [if_neg hh] at hs1
        have hkids : x.to.kids = [] := by
          cases hx : x.to.kids with
          | nil => rfl
          | cons y ys =>
            have := alone_kids k3 (by rw [hx]; simp)
            omega
        have hdep : depthV (d + 1) x = 0 := by
          show (if x.to.kind < 5 then 0 else _) = 0
          rw [if_pos hk]
        rw [hkids, hdep, hs1]
        refine ⟨fun _ => ⟨?_, by omega⟩, fun h => by cases h⟩
        show ((D, n + 1), true) = ((max D (L + 0), n + 1), true)
        rw [Nat.max_eq_left (by omega)]
      · have h5 : 5 ≤ x.to.kind := by omega
        have hL7 := k4 h5
        rw [if_pos (alone_holds k3 h5)] at hs1
        have hdep : depthV (d + 1) x = (x.to.kids.map (depthV d)).foldr max 0 + 1 := by
          show (if x.to.kind < 5 then 0 else _) = _
          rw [if_neg hk]
        have ih := meas_list (meas_within d) (L + 1) n (by omega) x.to.kids (max D (L + 1)) 1 (by omega) (by omega) (by omega) (by omega)
        rw [show 8 - L - 1 = 8 - (L + 1) by omega, hdep, hs1]
        refine ⟨fun h => ?_, ih.2⟩
        obtain ⟨i1, i2⟩ := ih.1 h
        refine ⟨?_, by omega⟩
        rw [i1]
        congr 2
        omega
theorem within_nodesL {d : Nat} (hd : ∀ (x : ValN d) (L : Nat) (m : Int), withinV d x L m ≠ 0 → withinV d x L m = nodesV d x) (L : Nat) (m : Int) : ∀ (l : List (ValN d)) (k : Nat), withinL (withinV d) L m l k ≠ 0 → withinL (withinV d) L m l k = k + (l.map (nodesV d)).sum
  | [], k, _ => by simp [withinL]
  | y :: ys, k, h => by
    have e : withinL (withinV d) L m (y :: ys) k = if withinV d y L (m - k) = 0 then 0 else withinL (withinV d) L m ys (k + withinV d y L (m - k)) := rfl
    rw [e] at h ⊢
    by_cases h0 : withinV d y L (m - k) = 0
    · rw [if_pos h0] at h; exact (h rfl).elim
    · rw [if_neg h0] at h ⊢
      rw [within_nodesL hd L m ys _ h, hd y L _ h0, List.map_cons, List.sum_cons]
      omega
theorem within_nodes : ∀ (d : Nat) (x : ValN d) (L : Nat) (m : Int), withinV d x L m ≠ 0 → withinV d x L m = nodesV d x
  | 0, _, _, _, h => (h rfl).elim
  | d + 1, x, L, m, h => by
    by_cases hno : m < 1 ∨ aloneB x.to = false ∨ (5 ≤ x.to.kind ∧ L = 0)
    · rw [withinV_no hno] at h; exact (h rfl).elim
    · rw [withinV_yes hno] at h ⊢
      exact within_nodesL (within_nodes d) _ _ _ _ h
/-- What the program measures: a right value's depth and nodes. -/
theorem meas_right {d : Nat} {x : ValN d} (h : rightV d x = true) : measV d x = ((depthV d x, nodesV d x), true) ∧ depthV d x ≤ 8 ∧ 1 ≤ nodesV d x ∧ nodesV d x ≤ 256 := by
  unfold rightV at h
  rw [decide_eq_true_eq] at h
  have h0 : withinV d x (8 - 0) (256 - ((0 : Nat) : Int)) ≠ 0 := by simpa using (by omega : withinV d x 8 256 ≠ 0)
  have hle := withinV_le d x 8 256
  have hn := within_nodes d x 8 256 (by omega)
  obtain ⟨h1, h2⟩ := (meas_within d x 0 0 0 (by omega) (by omega) (by omega) (by omega)).1 h0
  refine ⟨?_, by omega, by omega, by omega⟩
  unfold measV
  rw [h1]
  rw [show withinV d x (8 - 0) (256 - ((0 : Nat) : Int)) = withinV d x 8 256 from rfl, hn]
  simp
theorem meas_wrong {d : Nat} {x : ValN d} (h : rightV d x = false) : (measV d x).2 = false := by
  unfold rightV at h
  rw [decide_eq_false_iff_not] at h
  exact (meas_within d x 0 0 0 (by omega) (by omega) (by omega) (by omega)).2 (by show withinV d x 8 256 = 0; omega)
theorem meas_ok (d : Nat) (x : ValN d) : (measV d x).2 = rightV d x := by
  cases h : rightV d x with
  | true => rw [(meas_right h).1]
  | false => exact meas_wrong h
end Go.Dav

namespace Go.Dav
set_option linter.unusedVariables false
set_option linter.unusedSimpArgs false
open Go Go.RowKit
theorem bits_one (n : Int) : bits .and .i64 n 1 = 0 ∨ bits .and .i64 n 1 = 1 := by
  unfold bits
  have h : ((BitVec.ofInt IntKind.i64.bits n) &&& (BitVec.ofInt IntKind.i64.bits 1)).toNat < 2 := by
    rw [BitVec.toNat_and, show (BitVec.ofInt IntKind.i64.bits 1).toNat = 1 from by decide, Nat.and_one_is_mod]
    exact Nat.mod_lt _ (by decide)
  dsimp only
  generalize ((BitVec.ofInt IntKind.i64.bits n) &&& (BitVec.ofInt IntKind.i64.bits 1)).toNat = k at h
  rcases (by omega : k = 0 ∨ k = 1) with rfl | rfl
  · exact .inl (by decide)
  · exact .inr (by decide)
theorem bits_one0 : bits .and .i64 0 1 = 0 := by decide
theorem bits_one1 : bits .and .i64 1 1 = 1 := by decide
theorem truth_eq (n : Int) : decide (n = bits .and .i64 n 1) = (decide (n = 0) || decide (n = 1)) := by
  by_cases h0 : n = 0
  · subst h0; rw [bits_one0]; decide
  · by_cases h1 : n = 1
    · subst h1; rw [bits_one1]; decide
    · rw [decide_eq_false h0, decide_eq_false h1, decide_eq_false]
      · rfl
      · intro h
        rcases bits_one n with h2 | h2 <;> omega
/-- Has a value nothing besides what its kind has? -/
def bareB {K : Type} (x : ValF K) (n : Int) (s : ByteArray) (k : Nat) : Bool := decide (x.n = n) && (x.s.toList == s.toList && (decide (x.kids.length = k) && decide (x.keys.length = 0)))
/-- .. and the program's test of each kind. -/
def objB {K : Type} (x : ValF K) : Bool := keysTo x.keys x.keys.length && (decide (x.n = 0) && (strEmpty x.s && decide (x.kids.length = x.keys.length)))
def kindB {K : Type} (x : ValF K) : Bool :=
  if x.kind = 1 then bareB x 0 ⟨#[]⟩ 0
  else if x.kind = 2 then bareB x (bits .and .i64 x.n 1) ⟨#[]⟩ 0
  else if x.kind = 3 then bareB x x.n ⟨#[]⟩ 0
  else if x.kind = 4 then validB x.s.data.toList && bareB x 0 x.s 0
  else if x.kind = 5 then bareB x 0 ⟨#[]⟩ x.kids.length
  else if x.kind = 6 then objB x
  else false
theorem strEmpty_default (s : ByteArray) : (s.toList == (⟨#[]⟩ : ByteArray).toList) = strEmpty s := by
  unfold strEmpty
  rw [show (⟨#[]⟩ : ByteArray).toList = [] from by simp]
theorem str_self (s : ByteArray) : (s.toList == s.toList) = true := by simp
theorem keys_none {K : Type} {x : ValF K} (h : decide (x.keys.length = 0) = true) : keysTo x.keys x.keys.length = true := by
  rw [decide_eq_true_eq] at h; rw [h]; rfl
theorem kindB_alone {K : Type} (x : ValF K) : kindB x = aloneB x := by
  unfold kindB aloneB bareB objB
  simp only [strEmpty_default, str_self, Bool.true_and, truth_eq]
  by_cases hk : x.keys.length = 0
  · have hq : keysTo x.keys x.keys.length = true := keys_none (decide_eq_true hk)
    simp only [hq, Bool.true_and, decide_true]
    repeat' split
    all_goals first | rfl | (cases decide (x.n = 0) <;> cases strEmpty x.s <;> cases validB x.s.data.toList <;> simp)
  · simp only [decide_eq_false hk, Bool.and_false, if_false]
    repeat' split
    all_goals first | rfl | simp
/-- A step of the measure, with int's own sums. -/
def metStepW (s : Int × Int) (m : Nat × ValF Unit) : Int × Int := (if holdsB m.2.kind = true then max s.1 (IntKind.i64.wrap (IntKind.i64.wrap (m.1 : Int) + 1)) else s.1, s.2 + 1)
def metOkW (s : Int × Int) (m : Nat × ValF Unit) : Bool := decide (s.2 ≤ 256) && (decide (s.1 ≤ 8) && aloneB m.2)
theorem Lev.prefix_ {l r : List (Nat × ValF Unit)} (h : Lev (l ++ r)) : Lev l := fun s pre m post e hg => h s pre m (post ++ r) (by rw [e]; simp) hg
/-- The rounds that have been, all of them good; what they have measured. -/
structure MetIs (D n : Int) (pre : List (Nat × ValF Unit)) : Prop where
  many : n = (pre.length : Int)
  lo : 0 ≤ D
  hi : D ≤ 8
  few : n ≤ 256
  go : Lev pre → ∃ a b : Nat, metGo (0, 0) pre = ((a, b), true) ∧ (a : Int) = D ∧ (b : Int) = n
theorem MetIs.nil_ : MetIs 0 0 [] := ⟨rfl, by omega, by omega, by omega, fun _ => ⟨0, 0, rfl, rfl, rfl⟩⟩
theorem met_step {s : Nat × Nat} {D n : Int} (h1 : (s.1 : Int) = D) (h2 : (s.2 : Int) = n) (h8 : D ≤ 8) {m : Nat × ValF Unit} (hm : m.1 ≤ 8) :
    (((metStep s m).1 : Nat) : Int) = (metStepW (D, n) m).1 ∧ (((metStep s m).2 : Nat) : Int) = (metStepW (D, n) m).2 ∧ metOk (metStep s m) m = metOkW (metStepW (D, n) m) m := by
  have w1 : IntKind.i64.wrap (m.1 : Int) = (m.1 : Int) := IntWalk.i64_in _ (by omega)
  have w2 : IntKind.i64.wrap ((m.1 : Int) + 1) = (m.1 : Int) + 1 := IntWalk.i64_in _ (by omega)
  have e1 : (((metStep s m).1 : Nat) : Int) = (metStepW (D, n) m).1 := by
    unfold metStep metStepW
    dsimp only
    rw [w1, w2]
    split <;> omega
  have e2 : (((metStep s m).2 : Nat) : Int) = (metStepW (D, n) m).2 := by
    unfold metStep metStepW
    dsimp only
    omega
  refine ⟨e1, e2, ?_⟩
  unfold metOk metOkW
  rw [← e1, ← e2]
  rw [show decide ((metStep s m).2 ≤ 256) = decide ((((metStep s m).2 : Nat) : Int) ≤ 256) from decide_eq_decide.2 (by omega), show decide ((metStep s m).1 ≤ 8) = decide ((((metStep s m).1 : Nat) : Int) ≤ 8) from decide_eq_decide.2 (by omega)]
theorem MetIs.snoc {D n D' n' : Int} {pre : List (Nat × ValF Unit)} {m : Nat × ValF Unit} (h : MetIs D n pre) (hs : metStepW (D, n) m = (D', n')) (hk : metOkW (D', n') m = true) : MetIs D' n' (pre ++ [m]) := by
  have e1 : D' = (metStepW (D, n) m).1 := by rw [hs]
  have e2 : n' = n + 1 := by have : n' = (metStepW (D, n) m).2 := by rw [hs]
                             exact this
  have hk' := hk
  unfold metOkW at hk'
  simp only [Bool.and_eq_true, decide_eq_true_eq] at hk'
  refine ⟨by rw [e2, h.many, List.length_append]; simp, ?_, hk'.2.1, hk'.1, fun hl => ?_⟩
  · have := h.lo
    rw [e1]; unfold metStepW; dsimp only; split <;> omega
  · obtain ⟨a, b, h1, h2, h3⟩ := h.go hl.prefix_
    have hm : m.1 ≤ 8 := hl (0, 0) pre m [] rfl (by rw [h1])
    obtain ⟨g1, g2, g3⟩ := met_step (s := (a, b)) h2 h3 h.hi hm
    rw [hs] at g1 g2 g3
    rw [metGo_snoc (by rw [h1]), h1]
    exact ⟨(metStep (a, b) m).1, (metStep (a, b) m).2, by rw [g3, hk], g1, g2⟩
theorem met_done {d : Nat} {x : ValN d} {D n : Int} (h : MetIs D n (allV d 0 x)) : rightV d x = true ∧ D = (depthV d x : Int) ∧ n = (nodesV d x : Int) := by
  obtain ⟨a, b, h1, h2, h3⟩ := h.go (allV_lev d x 0 (by omega))
  have hr : rightV d x = true := by rw [← meas_ok]; unfold measV; rw [h1]
  have hm := (meas_right hr).1
  unfold measV at hm
  rw [h1] at hm
  have : a = depthV d x ∧ b = nodesV d x := by simpa using hm
  exact ⟨hr, by omega, by omega⟩
theorem met_stop {d : Nat} {x : ValN d} {D n : Int} {pre : List (Nat × ValF Unit)} {m : Nat × ValF Unit} (h : MetIs D n pre) (hk : metOkW (metStepW (D, n) m) m = false) (hp : pre ++ [m] <+: allV d 0 x) : rightV d x = false := by
  obtain ⟨r, hr⟩ := hp
  have hl : Lev (pre ++ [m]) := Lev.prefix_ (r := r) (by rw [hr]; exact allV_lev d x 0 (by omega))
  obtain ⟨a, b, h1, h2, h3⟩ := h.go hl.prefix_
  have hm : m.1 ≤ 8 := hl (0, 0) pre m [] rfl (by rw [h1])
  obtain ⟨_, _, g3⟩ := met_step (s := (a, b)) h2 h3 h.hi hm
  rw [← meas_ok]
  unfold measV
  rw [← hr, metGo_append, if_neg (by rw [metGo_snoc (by rw [h1]), h1, g3, hk]; simp), metGo_snoc (by rw [h1]), h1, g3, hk]
end Go.Dav

namespace Go.Dav
set_option linter.unusedVariables false
set_option linter.unusedSimpArgs false
open Go Go.RowKit
theorem and_no {a b : Bool} (h : a = false) : (a && b) = false := by rw [h]; rfl
end Go.Dav
namespace Go.Proofs.YtmcmknndhppljaaDoor
set_option linter.unusedVariables false
set_option linter.unusedSimpArgs false
open Go.RowKit Go.Dav
attribute [local go_sem] Gives ite_val ite_val_true

set_option maxRecDepth 8000 in
set_option maxHeartbeats 4000000 in
theorem Tryd_bare (kind n m : Int) (s t : ByteArray) (ka qa : Option Addr) (kl kc ql qc k : Nat) (w : World) :
    Calls Tryd.prog 111 #[.agg #[.int .i64 kind, .int .i64 n, .string s, .slice ka kl kc, .slice qa ql qc], .int .i64 m, .string t, .int .i64 (k : Int)] w fun e w' => e = .returned (.bool (decide (n = m) && (s.toList == t.toList && (decide (kl = k) && decide (ql = 0))))) ∧ Below w.heap.size w w' := by
  by_cases h1 : n = m
  · subst h1
    rw [decide_eq_true rfl, Bool.true_and]
    have g1 : (n == n) = true := by simp
    cases h2 : (s.toList == t.toList) with
    | true =>
      rw [Bool.true_and]
      by_cases h3 : kl = k
      · subst h3
        rw [decide_eq_true rfl, Bool.true_and]
        by_cases h4 : ql = 0
        · subst h4
          go_enter Tryd.func111, Tryd.ntmps111
          go_wp2
          go_ret
          exact ⟨rfl, (by repeat (first | (with_reducible exact Below.refl _ _) | (with_reducible exact Below.refl _ _) | (with_reducible refine Below.setCell ?_ (by first | omega | (simp; done) | (simp; omega)) _) | (with_reducible refine Below.alloc ?_ (by first | omega | (simp; done) | (simp; omega)) _) | (with_reducible refine Below.drew ?_) | (with_reducible refine below_drewN ?_ _)))⟩
        · rw [decide_eq_false h4]
          have g4 : ((ql : Int) == 0) = false := by rw [beq_eq_false_iff_ne]; omega
          clear h4
          go_enter Tryd.func111, Tryd.ntmps111
          go_wp2
          go_ret
          exact ⟨rfl, (by repeat (first | (with_reducible exact Below.refl _ _) | (with_reducible exact Below.refl _ _) | (with_reducible refine Below.setCell ?_ (by first | omega | (simp; done) | (simp; omega)) _) | (with_reducible refine Below.alloc ?_ (by first | omega | (simp; done) | (simp; omega)) _) | (with_reducible refine Below.drew ?_) | (with_reducible refine below_drewN ?_ _)))⟩
      · rw [decide_eq_false h3, Bool.false_and]
        have g3 : ((kl : Int) == (k : Int)) = false := by rw [beq_eq_false_iff_ne]; omega
        clear h3
        go_enter Tryd.func111, Tryd.ntmps111
        go_wp2
        go_ret
        exact ⟨rfl, (by repeat (first | (with_reducible exact Below.refl _ _) | (with_reducible exact Below.refl _ _) | (with_reducible refine Below.setCell ?_ (by first | omega | (simp; done) | (simp; omega)) _) | (with_reducible refine Below.alloc ?_ (by first | omega | (simp; done) | (simp; omega)) _) | (with_reducible refine Below.drew ?_) | (with_reducible refine below_drewN ?_ _)))⟩
    | false =>
      rw [Bool.false_and]
      go_enter Tryd.func111, Tryd.ntmps111
      go_wp2
      go_ret
      exact ⟨rfl, (by repeat (first | (with_reducible exact Below.refl _ _) | (with_reducible exact Below.refl _ _) | (with_reducible refine Below.setCell ?_ (by first | omega | (simp; done) | (simp; omega)) _) | (with_reducible refine Below.alloc ?_ (by first | omega | (simp; done) | (simp; omega)) _) | (with_reducible refine Below.drew ?_) | (with_reducible refine below_drewN ?_ _)))⟩
  · rw [decide_eq_false h1, Bool.false_and]
    go_enter Tryd.func111, Tryd.ntmps111
    go_wp2
    go_ret
    exact ⟨rfl, (by repeat (first | (with_reducible exact Below.refl _ _) | (with_reducible exact Below.refl _ _) | (with_reducible refine Below.setCell ?_ (by first | omega | (simp; done) | (simp; omega)) _) | (with_reducible refine Below.alloc ?_ (by first | omega | (simp; done) | (simp; omega)) _) | (with_reducible refine Below.drew ?_) | (with_reducible refine below_drewN ?_ _)))⟩

theorem Tryd_knull (kind n : Int) (s : ByteArray) (ka qa : Option Addr) (kl kc ql qc : Nat) (w : World) :
    Calls Tryd.prog 101 #[.agg #[.int .i64 kind, .int .i64 n, .string s, .slice ka kl kc, .slice qa ql qc]] w fun e w' => e = .returned (.bool (decide (n = 0) && (s.toList == (⟨#[]⟩ : ByteArray).toList && (decide (kl = 0) && decide (ql = 0))))) ∧ Below w.heap.size w w' := by
  obtain ⟨r, hr⟩ : ∃ r, (decide (n = 0) && (s.toList == (⟨#[]⟩ : ByteArray).toList && (decide (kl = 0) && decide (ql = 0)))) = r := ⟨_, rfl⟩
  have HC := Lib.hid (fun W => Tryd_bare kind n 0 s ⟨#[]⟩ ka qa kl kc ql qc 0 W)
  rw [hr] at HC ⊢
  clear hr
  go_enter Tryd.func101, Tryd.ntmps101
  go_wp2_with fail
  refine (HC.out _).mono ?_; rintro e w1 ⟨rfl, hb1⟩
  go_wp2
  go_ret
  exact ⟨rfl, (by repeat (first | (with_reducible exact Below.refl _ _) | (with_reducible exact Below.refl _ _) | (with_reducible refine Below.setCell ?_ (by first | omega | (simp; done) | (simp; omega)) _) | (with_reducible refine Below.alloc ?_ (by first | omega | (simp; done) | (simp; omega)) _) | (with_reducible refine Below.drew ?_) | (with_reducible refine below_drewN ?_ _) | (with_reducible refine Below.trans ?_ (hb1.mono (by first | omega | (simp; done) | (simp; omega))))))⟩

theorem Tryd_ktruth (kind n : Int) (s : ByteArray) (ka qa : Option Addr) (kl kc ql qc : Nat) (w : World) :
    Calls Tryd.prog 102 #[.agg #[.int .i64 kind, .int .i64 n, .string s, .slice ka kl kc, .slice qa ql qc]] w fun e w' => e = .returned (.bool (decide (n = bits .and .i64 n 1) && (s.toList == (⟨#[]⟩ : ByteArray).toList && (decide (kl = 0) && decide (ql = 0))))) ∧ Below w.heap.size w w' := by
  obtain ⟨r, hr⟩ : ∃ r, (decide (n = bits .and .i64 n 1) && (s.toList == (⟨#[]⟩ : ByteArray).toList && (decide (kl = 0) && decide (ql = 0)))) = r := ⟨_, rfl⟩
  have HC := Lib.hid (fun W => Tryd_bare kind n (bits .and .i64 n 1) s ⟨#[]⟩ ka qa kl kc ql qc 0 W)
  rw [hr] at HC ⊢
  clear hr
  go_enter Tryd.func102, Tryd.ntmps102
  go_wp2_with fail
  refine (HC.out _).mono ?_; rintro e w1 ⟨rfl, hb1⟩
  go_wp2
  go_ret
  exact ⟨rfl, (by repeat (first | (with_reducible exact Below.refl _ _) | (with_reducible exact Below.refl _ _) | (with_reducible refine Below.setCell ?_ (by first | omega | (simp; done) | (simp; omega)) _) | (with_reducible refine Below.alloc ?_ (by first | omega | (simp; done) | (simp; omega)) _) | (with_reducible refine Below.drew ?_) | (with_reducible refine below_drewN ?_ _) | (with_reducible refine Below.trans ?_ (hb1.mono (by first | omega | (simp; done) | (simp; omega))))))⟩

theorem Tryd_knumber (kind n : Int) (s : ByteArray) (ka qa : Option Addr) (kl kc ql qc : Nat) (w : World) :
    Calls Tryd.prog 103 #[.agg #[.int .i64 kind, .int .i64 n, .string s, .slice ka kl kc, .slice qa ql qc]] w fun e w' => e = .returned (.bool (decide (n = n) && (s.toList == (⟨#[]⟩ : ByteArray).toList && (decide (kl = 0) && decide (ql = 0))))) ∧ Below w.heap.size w w' := by
  obtain ⟨r, hr⟩ : ∃ r, (decide (n = n) && (s.toList == (⟨#[]⟩ : ByteArray).toList && (decide (kl = 0) && decide (ql = 0)))) = r := ⟨_, rfl⟩
  have HC := Lib.hid (fun W => Tryd_bare kind n n s ⟨#[]⟩ ka qa kl kc ql qc 0 W)
  rw [hr] at HC ⊢
  clear hr
  go_enter Tryd.func103, Tryd.ntmps103
  go_wp2_with fail
  refine (HC.out _).mono ?_; rintro e w1 ⟨rfl, hb1⟩
  go_wp2
  go_ret
  exact ⟨rfl, (by repeat (first | (with_reducible exact Below.refl _ _) | (with_reducible exact Below.refl _ _) | (with_reducible refine Below.setCell ?_ (by first | omega | (simp; done) | (simp; omega)) _) | (with_reducible refine Below.alloc ?_ (by first | omega | (simp; done) | (simp; omega)) _) | (with_reducible refine Below.drew ?_) | (with_reducible refine below_drewN ?_ _) | (with_reducible refine Below.trans ?_ (hb1.mono (by first | omega | (simp; done) | (simp; omega))))))⟩

theorem Tryd_klist (kind n : Int) (s : ByteArray) (ka qa : Option Addr) (kl kc ql qc : Nat) (w : World) :
    Calls Tryd.prog 105 #[.agg #[.int .i64 kind, .int .i64 n, .string s, .slice ka kl kc, .slice qa ql qc]] w fun e w' => e = .returned (.bool (decide (n = 0) && (s.toList == (⟨#[]⟩ : ByteArray).toList && (decide (kl = kl) && decide (ql = 0))))) ∧ Below w.heap.size w w' := by
  obtain ⟨r, hr⟩ : ∃ r, (decide (n = 0) && (s.toList == (⟨#[]⟩ : ByteArray).toList && (decide (kl = kl) && decide (ql = 0)))) = r := ⟨_, rfl⟩
  have HC := Lib.hid (fun W => Tryd_bare kind n 0 s ⟨#[]⟩ ka qa kl kc ql qc kl W)
  rw [hr] at HC ⊢
  clear hr
  go_enter Tryd.func105, Tryd.ntmps105
  go_wp2_with fail
  refine (HC.out _).mono ?_; rintro e w1 ⟨rfl, hb1⟩
  go_wp2
  go_ret
  exact ⟨rfl, (by repeat (first | (with_reducible exact Below.refl _ _) | (with_reducible exact Below.refl _ _) | (with_reducible refine Below.setCell ?_ (by first | omega | (simp; done) | (simp; omega)) _) | (with_reducible refine Below.alloc ?_ (by first | omega | (simp; done) | (simp; omega)) _) | (with_reducible refine Below.drew ?_) | (with_reducible refine below_drewN ?_ _) | (with_reducible refine Below.trans ?_ (hb1.mono (by first | omega | (simp; done) | (simp; omega))))))⟩


set_option maxRecDepth 8000 in
set_option maxHeartbeats 4000000 in
theorem Tryd_ktext (kind n : Int) (s : ByteArray) (ka qa : Option Addr) (kl kc ql qc : Nat) (w : World) (hs : s.size ≤ 17592186044416) (hN : GlobAt w 0 [.int .i64 0, .int .i64 0] 143) :
    Calls Tryd.prog 104 #[.agg #[.int .i64 kind, .int .i64 n, .string s, .slice ka kl kc, .slice qa ql qc]] w fun e w' => e = .returned (.bool (validB s.data.toList && (decide (n = 0) && (s.toList == s.toList && (decide (kl = 0) && decide (ql = 0)))))) ∧ Below w.heap.size w w' := by
  obtain ⟨r, hr⟩ : ∃ r, (decide (n = 0) && (s.toList == s.toList && (decide (kl = 0) && decide (ql = 0)))) = r := ⟨_, rfl⟩
  have HC := Lib.hid (fun W => Tryd_bare kind n 0 s s ka qa kl kc ql qc 0 W)
  rw [hr] at HC ⊢
  clear hr
  obtain ⟨vb, hvb⟩ : ∃ v, validB s.data.toList = v := ⟨_, rfl⟩
  rw [hvb]
  obtain ⟨W0, hW0⟩ : ∃ W0, w.alloc (.cells #[.int .i64 kind, .int .i64 n, .string s, .slice ka kl kc, .slice qa ql qc] 129) = W0 := ⟨_, rfl⟩
  have hb0 : Below w.heap.size w W0 := by rw [← hW0]; exact (by repeat (first | (with_reducible exact Below.refl _ _) | (with_reducible exact Below.refl _ _) | (with_reducible refine Below.setCell ?_ (by first | omega | (simp; done) | (simp; omega)) _) | (with_reducible refine Below.alloc ?_ (by first | omega | (simp; done) | (simp; omega)) _) | (with_reducible refine Below.drew ?_) | (with_reducible refine below_drewN ?_ _)))
  have HQ := Lib.hid (show Blk W0 w.heap.size [.int .i64 kind, .int .i64 n, .string s, .slice ka kl kc, .slice qa ql qc] 129 by rw [← hW0]; exact Blk.new _ _ _)
  have hu := Tryd_uCheck s W0 hs (hN.ext hb0)
  rw [hvb] at hu
  have HU := Lib.hid hu
  have HB0 := Lib.hid hb0
  have HW0 := Lib.hid hW0
  clear hW0 hb0 hN hu hvb
  go_enter Tryd.func104, Tryd.ntmps104
  go_wp2_with fail
  rw [HW0.out]
  refine HU.out.mono ?_; rintro e w1 ⟨⟨a, rfl⟩, hb1⟩
  have hq := HQ.out.ext hb1
  have q1 := hq.cells
  have l1 := hq.lt
  have HB1 := Lib.hid (HB0.out.trans (hb1.mono HB0.out.size))
  clear hq hb1 HQ HU
  cases vb with
  | true =>
    simp only [if_true, Bool.true_and]
    go_wp2_with fail
    refine (HC.out _).mono ?_; rintro e w2 ⟨rfl, hb2⟩
    have HB2 := Lib.hid (HB1.out.trans (hb2.mono HB1.out.size))
    clear hb2
    go_wp2
    go_ret
    exact ⟨rfl, HB2.out⟩
  | false =>
    simp only [Bool.false_eq_true, if_false, Bool.false_and]
    go_wp2
    go_ret
    exact ⟨rfl, HB1.out⟩
end Go.Proofs.YtmcmknndhppljaaDoor

namespace Go.Proofs.YtmcmknndhppljaaDoor
set_option linter.unusedVariables false
set_option linter.unusedSimpArgs false
open Go.RowKit Go.Dav
attribute [local go_sem] Gives ite_val ite_val_true

set_option maxRecDepth 8000 in
set_option maxHeartbeats 8000000 in
theorem Tryd_kobject (kind n : Int) (s : ByteArray) (ka qa : Option Addr) (kl kc ql qc : Nat) (keys : List ByteArray) (w : World) (hK : StrsAt w qa ql qc keys) (hN : GlobAt w 0 [.int .i64 0, .int .i64 0] 143) :
    Calls Tryd.prog 106 #[.agg #[.int .i64 kind, .int .i64 n, .string s, .slice ka kl kc, .slice qa ql qc]] w fun e w' => e = .returned (.bool (keysTo keys ql && (decide (n = 0) && (s.toList == (⟨#[]⟩ : ByteArray).toList && decide (kl = ql))))) ∧ Below w.heap.size w w' := by
  have hql := hK.hlen
  have hqf := hK.hfew
  obtain ⟨r, hr⟩ : ∃ r, (keysTo keys ql && (decide (n = 0) && (s.toList == (⟨#[]⟩ : ByteArray).toList && decide (kl = ql)))) = r := ⟨_, rfl⟩
  rw [hr]
  have HR := Lib.hid hr
  obtain ⟨W0, hW0⟩ : ∃ W0, w.alloc (.cells #[.int .i64 kind, .int .i64 n, .string s, .slice ka kl kc, .slice qa ql qc] 129) = W0 := ⟨_, rfl⟩
  have bel0 : Below w.heap.size w W0 := by rw [← hW0]; exact (by repeat (first | (with_reducible exact Below.refl _ _) | (with_reducible exact Below.refl _ _) | (with_reducible refine Below.setCell ?_ (by first | omega | (simp; done) | (simp; omega)) _) | (with_reducible refine Below.alloc ?_ (by first | omega | (simp; done) | (simp; omega)) _) | (with_reducible refine Below.drew ?_) | (with_reducible refine below_drewN ?_ _)))
  have hq0 : Blk W0 w.heap.size [.int .i64 kind, .int .i64 n, .string s, .slice ka kl kc, .slice qa ql qc] 129 := by rw [← hW0]; exact Blk.new _ _ _
  have HB0 := Lib.hid hq0
  have HKS := Lib.hid (hK.ext bel0)
  have BEL0 := Lib.hid bel0
  have HW0 := Lib.hid hW0
  have HQL := Lib.hid hql
  have HN := Lib.hid (hN.ext bel0)
  have q1 := hq0.cells
  have l1 := hq0.lt
  clear hr hql hK bel0 hW0 hN hq0
  go_enter Tryd.func106, Tryd.ntmps106
  go_wp2_with fail
  rw [HW0.out]
  go_wp2_with fail
  clear q1 l1
  go_loopw [10] (fun ix wr => ∃ i : Nat, i ≤ ql ∧ ix = .int .i64 (i : Int) ∧ keysTo keys i = true ∧ Below W0.heap.size W0 wr) (fun ix _ => ql - (intOf ix).toNat)
  case atStart => exact ⟨0, Nat.zero_le _, by go_num, rfl, Below.refl _ _⟩
  case round =>
    obtain ⟨i, hi, rfl, hkt, hbr⟩ := hrel
    have HBL := Lib.hid hbr
    have HKT := Lib.hid hkt
    clear hbr hkt
    by_cases hlt : i < ql
    · have g1 : (i : Int) < (ql : Int) := by omega
      obtain ⟨u, hu⟩ : ∃ u, keys[i]? = some u := ⟨_, List.getElem?_eq_getElem (by have := HQL.out; omega)⟩
      obtain ⟨b, o, rfl, hb, hcell⟩ := (HKS.out.ext HBL.out).hat i u hu
      have hsz := HKS.out.hsz u (List.mem_of_getElem? hu)
      have hgd : keys.getD i default = u := by rw [List.getD, hu]; rfl
      have hsucc := keysTo_succ keys i
      rw [hgd, HKT.out, Bool.true_and] at hsucc
      have HSU := Lib.hid hsucc
      have hcu := Tryd_uCheck u wr hsz (HN.out.ext HBL.out)
      have HLT := Lib.hid hlt
      have HU := Lib.hid hu
      have HBB := Lib.hid hb
      obtain ⟨vb, hvb⟩ : ∃ v, validB u.data.toList = v := ⟨_, rfl⟩
      rw [hvb] at hcu
      have HCU := Lib.hid hcu
      have HV := Lib.hid hvb
      clear hgd hsucc hsz hlt hi hcu hvb hu hb
      go_wp2_with fail
      refine HCU.out.mono ?_; rintro e w1 ⟨⟨a, rfl⟩, hb1⟩
      have hbx := HBL.out.trans (hb1.mono HBL.out.size)
      have hq1 := HB0.out.ext hbx
      have HB1 := Lib.hid hbx
      have HX1 := Lib.hid hb1
      have q1 := hq1.cells
      have l1 := hq1.lt
      clear hbx hq1 hb1 HCU hcell
      cases vb with
      | false =>
        simp only [Bool.false_eq_true, if_false]
        have e : r = false := by
          rw [← HR.out]
          have h1 : keysTo keys ql = false := by
            cases hkq : keysTo keys ql with
            | false => rfl
            | true =>
              have h2 := keysTo_mono hkq (show i + 1 ≤ ql from HLT.out)
              rw [HSU.out, HV.out] at h2
              cases h2
          rw [h1, Bool.false_and]
        subst e
        go_wp2
        go_ret
        exact ⟨rfl, BEL0.out.trans (HB1.out.mono BEL0.out.size)⟩
      | true =>
        simp only [if_true]
        cases i with
        | zero =>
          have hk1 := Lib.hid (show keysTo keys 1 = true by rw [HSU.out, HV.out]; rfl)
          go_wp2_with fail
          go_roundw
          case rel => exact ⟨1, HLT.out, by go_num, hk1.out, HB1.out⟩
          case measure => have := HLT.out; simp [intOf]; omega
        | succ j =>
          obtain ⟨u', hu'⟩ : ∃ u, keys[j]? = some u := ⟨_, List.getElem?_eq_getElem (by have := HQL.out; have := HLT.out; omega)⟩
          obtain ⟨b', o', e', hbb', hcell'⟩ := (HKS.out.ext HB1.out).hat j u' hu'
          cases e'
          have hgd' : keys.getD j default = u' := by rw [List.getD, hu']; rfl
          have g2 : (j : Int) < (ql : Int) := by omega
          have u1 : IntKind.i64.wrap (j : Int) = (j : Int) := IntWalk.i64_in _ (by omega)
          obtain ⟨le, hle⟩ : ∃ le, Op.bytesLess u'.toList u.toList = le := ⟨_, rfl⟩
          have hsu := HSU.out
          rw [HV.out, Nat.add_sub_cancel, hgd', hle] at hsu
          simp only [Bool.true_and, Nat.add_eq_zero_iff, Nat.succ_ne_zero, and_false, decide_false, Bool.false_or] at hsu
          have HSU2 := Lib.hid hsu
          clear hu' hgd' hsu
          cases le with
          | true =>
            go_wp2_with fail
            go_roundw
            case rel => exact ⟨j + 1 + 1, HLT.out, by go_num, HSU2.out, HB1.out⟩
            case measure => have := HLT.out; simp [intOf]; omega
          | false =>
            have e : r = false := by
              rw [← HR.out]
              have h1 : keysTo keys ql = false := by
                cases hkq : keysTo keys ql with
                | false => rfl
                | true =>
                  have h2 := keysTo_mono hkq (show j + 1 + 1 ≤ ql from HLT.out)
                  rw [HSU2.out] at h2
                  cases h2
              rw [h1, Bool.false_and]
            subst e
            go_wp2
            go_ret
            exact ⟨rfl, BEL0.out.trans (HB1.out.mono BEL0.out.size)⟩
    · have g1 : ¬ (i : Int) < (ql : Int) := by omega
      obtain rfl : i = ql := by omega
      have hr := HR.out
      rw [HKT.out, Bool.true_and] at hr
      have hq1 := HB0.out.ext HBL.out
      have q1 := hq1.cells
      have l1 := hq1.lt
      clear hq1
      have BEL := Lib.hid (BEL0.out.trans (HBL.out.mono BEL0.out.size))
      have HR2 := Lib.hid hr
      clear hlt hi hr HR
      by_cases hn : n = 0
      · subst hn
        have h0 := HR2.out
        rw [decide_eq_true rfl, Bool.true_and] at h0
        have HR3 := Lib.hid h0
        clear h0 HR2
        cases h2 : (s.toList == (⟨#[]⟩ : ByteArray).toList) with
        | true =>
          have h0 := HR3.out
          rw [h2, Bool.true_and] at h0
          have h2' : s.toList = [] := by simpa using h2
          by_cases h3 : kl = i
          · subst h3
            obtain rfl : r = true := by rw [← h0]; simp
            clear h0 h2 HR3
            go_wp2
            go_ret
            exact ⟨rfl, BEL.out⟩
          · have g3 : ((kl : Int) == (i : Int)) = false := by rw [beq_eq_false_iff_ne]; omega
            obtain rfl : r = false := by rw [← h0]; simp [h3]
            clear h0 h2 h3 HR3
            go_wp2
            go_ret
            exact ⟨rfl, BEL.out⟩
        | false =>
          have h0 := HR3.out
          rw [h2, Bool.false_and] at h0
          obtain rfl : r = false := by rw [← h0]
          have h2' : ¬ s.toList = [] := by simpa using h2
          clear h0 HR3 h2
          go_wp2
          go_ret
          exact ⟨rfl, BEL.out⟩
      · have g3 : (n == 0) = false := by rw [beq_eq_false_iff_ne]; exact hn
        obtain rfl : r = false := by rw [← HR2.out]; simp [hn]
        clear hn HR2
        go_wp2
        go_ret
        exact ⟨rfl, BEL.out⟩
end Go.Proofs.YtmcmknndhppljaaDoor
