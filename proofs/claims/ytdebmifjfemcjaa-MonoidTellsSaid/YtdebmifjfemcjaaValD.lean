/-
  The reference of layer 4: one, Same, walked.
-/
import Derived.Test.YtdebmifjfemcjaaValC
namespace Go.Dav
set_option linter.unusedVariables false
set_option linter.unusedSimpArgs false
open Go Go.RowKit
theorem headD_drop {α : Type} (l : List α) (i : Nat) (d : α) : (l.drop i).headD d = l.getD i d := by
  rw [List.headD_eq_head?_getD, List.head?_drop]; rfl
theorem oneL_cons {K J : Type} (f : K → J → Bool) (k : Int) (x : K) (xs : List K) (y : J) (ys : List J) (ks js : List ByteArray) : oneL f k (x :: xs) (y :: ys) ks js = (((!decide (k = 6)) || (ks.headD default).toList == (js.headD default).toList) && (f x y && oneL f k xs ys ks.tail js.tail)) := rfl
theorem oneL_drop {K J : Type} {f : K → J → Bool} {k : Int} {xs : List K} {ys : List J} {ks js : List ByteArray} {i : Nat} {x : K} {y : J} (hx : xs[i]? = some x) (hy : ys[i]? = some y) :
    oneL f k (xs.drop i) (ys.drop i) (ks.drop i) (js.drop i) = (((!decide (k = 6)) || (ks.getD i default).toList == (js.getD i default).toList) && (f x y && oneL f k (xs.drop (i + 1)) (ys.drop (i + 1)) (ks.drop (i + 1)) (js.drop (i + 1)))) := by
  have hl := (List.getElem?_eq_some_iff.1 hx).1
  have hm := (List.getElem?_eq_some_iff.1 hy).1
  have e : xs.drop i = x :: xs.drop (i + 1) := by rw [List.drop_eq_getElem_cons hl, (List.getElem?_eq_some_iff.1 hx).2]
  have e2 : ys.drop i = y :: ys.drop (i + 1) := by rw [List.drop_eq_getElem_cons hm, (List.getElem?_eq_some_iff.1 hy).2]
  rw [e, e2, oneL_cons, headD_drop, headD_drop, List.tail_drop, List.tail_drop]
theorem withinL_good {K : Type} {f : K → Nat → Int → Nat} {g : K → Bool} {L : Nat} {m : Int} (hfg : ∀ y m, f y L m ≠ 0 → g y = true) : ∀ (l : List K) (n : Nat), withinL f L m l n ≠ 0 → l.all g = true
  | [], _, _ => rfl
  | y :: ys, n, h => by
    unfold withinL at h
    by_cases h0 : f y L (m - n) = 0
    · rw [if_pos h0] at h; exact absurd rfl h
    · rw [if_neg h0] at h
      rw [List.all_cons, hfg y _ h0, withinL_good hfg ys _ h]; rfl
theorem withinV_good : ∀ (d : Nat) (x : ValN d) (L : Nat) (m : Int), withinV d x L m ≠ 0 → goodV d x = true
  | 0, _, _, _, h => by unfold withinV at h; exact absurd rfl h
  | d + 1, x, L, m, h => by
    unfold withinV at h
    split at h
    · exact absurd rfl h
    · rename_i hc
      unfold goodV
      have h1 : aloneB x.to = true := by
        cases ha : aloneB x.to with
        | true => rfl
        | false => exact absurd (.inr (.inl ha)) hc
      rw [h1, Bool.true_and]
      exact withinL_good (fun y m => withinV_good d y (L - 1) m) _ _ h
theorem good_alone {d : Nat} {x : ValN (d + 1)} (h : goodV (d + 1) x = true) : aloneB x.to = true ∧ ∀ (i : Nat) (y : ValN d), x.to.kids[i]? = some y → goodV d y = true := by
  unfold goodV at h
  rw [Bool.and_eq_true] at h
  exact ⟨h.1, fun i y hy => List.all_eq_true.1 h.2 y (List.mem_of_getElem? hy)⟩
theorem alone_keys {K : Type} {x : ValF K} (h : aloneB x = true) (h6 : x.kind = 6) : x.keys.length = x.kids.length := by
  unfold aloneB at h
  rw [Bool.and_eq_true, h6] at h
  have h2 := h.2
  simp at h2
  omega
theorem oneV_eq {d e : Nat} (x : ValN (d + 1)) (y : ValN (e + 1)) : oneV (d + 1) (e + 1) x y = (decide (x.to.kind = y.to.kind) && (decide (x.to.n = y.to.n) && (x.to.s.toList == y.to.s.toList && (decide (x.to.kids.length = y.to.kids.length) && oneL (oneV d e) x.to.kind x.to.kids y.to.kids x.to.keys y.to.keys)))) := by
  conv => lhs; unfold oneV
end Go.Dav
namespace Go.Proofs.Ytdebmifjfemcjaa
set_option linter.unusedVariables false
set_option linter.unusedSimpArgs false
open Go.RowKit Go.Dav
attribute [local go_sem] Gives ite_val ite_val_true

set_option maxRecDepth 8000 in
set_option maxHeartbeats 16000000 in
theorem Try_rOne : ∀ (d e : Nat) (x : ValN d) (y : ValN e) (v u : Value) (w : World), ValAt w d v x → ValAt w e u y → goodV d x = true → goodV e y = true →
    Calls Try.prog 40 #[v, u] w fun e' w' => e' = .returned (.bool (oneV d e x y)) ∧ Below w.heap.size w w'
  | 0, _, _, _, _, _, _, h, _, _, _ => h.elim
  | _ + 1, 0, _, _, _, _, _, _, h, _, _ => h.elim
  | d + 1, e + 1, x, y, v, u, w, hx, hy, hgx, hgy => by
    obtain ⟨ka, kl, kc, qa, ql, qc, h⟩ := hx
    obtain ⟨ma, ml, mc, ra, rl, rc, g⟩ := hy
    have IH := Lib.hid (Try_rOne d e)
    have HGX := Lib.hid (good_alone hgx)
    have HGY := Lib.hid (good_alone hgy)
    obtain ⟨r, hr⟩ : ∃ r, oneV (d + 1) (e + 1) x y = r := ⟨_, rfl⟩
    rw [hr]
    rw [oneV_eq] at hr
    obtain ⟨xf, hxf⟩ : ∃ xf, x.to = xf := ⟨_, rfl⟩
    obtain ⟨yf, hyf⟩ : ∃ yf, y.to = yf := ⟨_, rfl⟩
    rw [hxf] at h HGX hr
    rw [hyf] at g HGY hr
    clear hxf hyf hgx hgy
    have hv := h.val
    have hu := g.val
    have hkl := h.hlen
    have hml := g.hlen
    have hkf := h.hfew
    have hmf := g.hfew
    subst hv hu
    obtain ⟨kind, hkd⟩ : ∃ k, xf.kind = k := ⟨_, rfl⟩
    obtain ⟨n, hn⟩ : ∃ k, xf.n = k := ⟨_, rfl⟩
    obtain ⟨s, hs⟩ : ∃ k, xf.s = k := ⟨_, rfl⟩
    obtain ⟨kind', hkd'⟩ : ∃ k, yf.kind = k := ⟨_, rfl⟩
    obtain ⟨n', hn'⟩ : ∃ k, yf.n = k := ⟨_, rfl⟩
    obtain ⟨s', hs'⟩ : ∃ k, yf.s = k := ⟨_, rfl⟩
    rw [hkd, hn, hs, hkd', hn', hs']
    rw [hkd, hn, hs, hkd', hn', hs', hkl, hml] at hr
    obtain ⟨W0, hW0⟩ : ∃ W0, (w.alloc (.cells #[.int .i64 kind, .int .i64 n, .string s, .slice ka kl kc, .slice qa ql qc] 51)).alloc (.cells #[.int .i64 kind', .int .i64 n', .string s', .slice ma ml mc, .slice ra rl rc] 51) = W0 := ⟨_, rfl⟩
    have bel0 : Below w.heap.size w W0 := by rw [← hW0]; exact (by repeat (first | (with_reducible exact Below.refl _ _) | (with_reducible exact Below.refl _ _) | (with_reducible refine Below.setCell ?_ (by first | omega | (simp; done) | (simp; omega)) _) | (with_reducible refine Below.alloc ?_ (by first | omega | (simp; done) | (simp; omega)) _) | (with_reducible refine Below.drew ?_) | (with_reducible refine below_drewN ?_ _)))
    have HB0 := Lib.hid (show Blk W0 w.heap.size [.int .i64 kind, .int .i64 n, .string s, .slice ka kl kc, .slice qa ql qc] 51 by rw [← hW0]; exact (Blk.new _ _ _).alloc _)
    have HC0 := Lib.hid (show Blk W0 (w.heap.size + 1) [.int .i64 kind', .int .i64 n', .string s', .slice ma ml mc, .slice ra rl rc] 51 by rw [← hW0]; exact Blk.new' _ _ _ (by simp))
    have HX := Lib.hid (h.ext bel0 fun _ _ => ValAt.ext bel0 d)
    have HY := Lib.hid (g.ext bel0 fun _ _ => ValAt.ext bel0 e)
    have BEL0 := Lib.hid bel0
    have HKL := Lib.hid hkl
    have HML := Lib.hid hml
    have HK6 := Lib.hid (fun h6 => alone_keys HGX.out.1 (hkd.trans h6))
    have HJ6 := Lib.hid (fun h6 => alone_keys HGY.out.1 (hkd'.trans h6))
    have HR := Lib.hid hr
    have HW0 := Lib.hid hW0
    clear hr h g bel0 hkd hn hs hkd' hn' hs' hW0
    by_cases e1 : kind = kind'
    · subst e1
      by_cases e2 : n = n'
      · subst e2
        cases e3 : (s.toList == s'.toList) with
        | true =>
          by_cases e4 : kl = ml
          · subst e4
            have hr := HR.out
            rw [e3, decide_eq_true rfl, decide_eq_true rfl, decide_eq_true rfl] at hr
            simp only [Bool.true_and] at hr
            have HR2 := Lib.hid hr
            have d3 : (s.toList != s'.toList) = false := by rw [bne, e3]; rfl
            clear hr HR hkl hml
            go_enter Try.func40, Try.ntmps40
            go_wp2_with fail
            rw [HW0.out]
            go_loopw [5] (fun ix wr => ∃ i : Nat, i ≤ kl ∧ ix = .int .i64 (i : Int) ∧ oneL (oneV d e) kind (xf.kids.drop i) (yf.kids.drop i) (xf.keys.drop i) (yf.keys.drop i) = r ∧ Below W0.heap.size W0 wr) (fun ix _ => kl - (intOf ix).toNat)
            case atStart => exact ⟨0, Nat.zero_le _, by go_num, by simpa using HR2.out, Below.refl _ _⟩
            case round =>
              obtain ⟨i, hi, rfl, hor, hbr⟩ := hrel
              have HBr := Lib.hid (HB0.out.ext hbr)
              have HCr := Lib.hid (HC0.out.ext hbr)
              have HXr := Lib.hid (HX.out.ext hbr fun _ _ => ValAt.ext hbr d)
              have HYr := Lib.hid (HY.out.ext hbr fun _ _ => ValAt.ext hbr e)
              have BELr := Lib.hid hbr
              have HOR := Lib.hid hor
              have q1 := HBr.out.cells
              have l1 := HBr.out.lt
              have q2 := HCr.out.cells
              have l2 := HCr.out.lt
              clear hor hbr
              by_cases hlt : i < kl
              · obtain ⟨x1, hx1⟩ : ∃ y, xf.kids[i]? = some y := ⟨_, List.getElem?_eq_getElem (by have := HKL.out; omega)⟩
                obtain ⟨y1, hy1⟩ : ∃ y, yf.kids[i]? = some y := ⟨_, List.getElem?_eq_getElem (by have := HML.out; omega)⟩
                obtain ⟨b, o, u0, u1, u2, u3, u4, rfl, hb, c0, c1, c2, c3, c4, hv1⟩ := HXr.out.hkid i x1 hx1
                obtain ⟨b', o', t0, t1, t2, t3, t4, rfl, hb', k0, k1, k2, k3, k4, hv2⟩ := HYr.out.hkid i y1 hy1
                have hst := oneL_drop (f := oneV d e) (k := kind) (ks := xf.keys) (js := yf.keys) hx1 hy1
                have hor := HOR.out
                rw [hst] at hor
                obtain ⟨q, hq⟩ : ∃ q, oneV d e x1 y1 = q := ⟨_, rfl⟩
                rw [hq] at hor
                have HV1 := Lib.hid hv1
                have HV2 := Lib.hid hv2
                have HLT := Lib.hid hlt
                have HQ := Lib.hid hq
                have HG1 := Lib.hid (HGX.out.2 i x1 hx1)
                have HG2 := Lib.hid (HGY.out.2 i y1 hy1)
                have g1 : (i : Int) < (kl : Int) := by omega
                have CALL := Lib.hid (show ∀ W, Below wr.heap.size wr W → Calls Try.prog 40 #[.agg #[u0, u1, u2, u3, u4], .agg #[t0, t1, t2, t3, t4]] W fun e' w' => e' = .returned (.bool q) ∧ Below W.heap.size W w' from fun W hW => by
                  have h := IH.out x1 y1 _ _ W (ValAt.ext hW d HV1.out) (ValAt.ext hW e HV2.out) HG1.out HG2.out
                  rw [HQ.out] at h
                  exact h)
                clear hx1 hy1 hst hv1 hv2 hlt hi hq
                by_cases h6 : kind = 6
                · subst h6
                  obtain ⟨z1, hz1⟩ : ∃ z, xf.keys[i]? = some z := ⟨_, List.getElem?_eq_getElem (by have := HK6.out rfl; have := HKL.out; have := HLT.out; omega)⟩
                  obtain ⟨z2, hz2⟩ : ∃ z, yf.keys[i]? = some z := ⟨_, List.getElem?_eq_getElem (by have := HJ6.out rfl; have := HML.out; have := HLT.out; omega)⟩
                  obtain ⟨b1, o1, rfl, hb1, hz1c⟩ := HXr.out.keys.hat i z1 hz1
                  obtain ⟨b2, o2, rfl, hb2, hz2c⟩ := HYr.out.keys.hat i z2 hz2
                  have g2 : (i : Int) < (ql : Int) := by have h1 := HXr.out.keys.hlen; have h2 := HK6.out rfl; have := HKL.out; have := HLT.out; omega
                  have g3 : (i : Int) < (rl : Int) := by have h1 := HYr.out.keys.hlen; have h2 := HJ6.out rfl; have := HML.out; have := HLT.out; omega
                  rw [show xf.keys.getD i default = z1 by rw [List.getD, hz1]; rfl, show yf.keys.getD i default = z2 by rw [List.getD, hz2]; rfl] at hor
                  clear hz1 hz2
                  cases hzz : (z1.toList == z2.toList) with
                  | false =>
                    have e5 : r = false := by rw [← hor, hzz]; rfl
                    have d5 : (z1.toList != z2.toList) = true := by rw [bne, hzz]; rfl
                    clear hor HOR HR2
                    subst e5
                    go_wp2_with fail
                    refine' wp_region_seq [.inl _, .inl _, .inl _, .inl _, .inl _, .inl _, .inl _, .inl _, .inl _, .inl _, .inl _, .inl _, .inl _, .inl _, .inl _, .inl _, .inl _, .inl undef, .inl undef, .inl undef, .inl undef, .inl undef, .inl undef, .inl undef, .inl undef, .inl undef, .inl undef, .inl undef, .inl undef, .inl _] (by kernel_rfl) (by kernel_rfl) ?main1
                    case main1 =>
                      refine wpParts_det (by rfl) (fun W hE hN => ?_) ?_
                      · go_simp; refine ⟨Below.refl _ _, ?_⟩; rfl
                      simp only [Act.put, List.setIfInBounds_toArray, List.set_cons_zero, List.set_cons_succ]
                      refine wpParts_det (by rfl) (fun W hE hN => ?_) ?_
                      · have hc := fun b o h => hE.cell (p := ⟨b, o, none⟩) h
                        go_simp; refine ⟨Below.refl _ _, ?_⟩; rfl
                      simp only [Act.put, List.setIfInBounds_toArray, List.set_cons_zero, List.set_cons_succ]
                      refine wpParts_det (by rfl) (fun W hE hN => ?_) ?_
                      · go_simp; refine ⟨Below.refl _ _, ?_⟩; rfl
                      simp only [Act.put, List.setIfInBounds_toArray, List.set_cons_zero, List.set_cons_succ]
                      refine wpParts_det (by rfl) (fun W hE hN => ?_) ?_
                      · go_simp; refine ⟨Below.refl _ _, ?_⟩; rfl
                      simp only [Act.put, List.setIfInBounds_toArray, List.set_cons_zero, List.set_cons_succ]
                      refine wpParts_det (by rfl) (fun W hE hN => ?_) ?_
                      · go_simp; refine ⟨Below.refl _ _, ?_⟩; rfl
                      simp only [Act.put, List.setIfInBounds_toArray, List.set_cons_zero, List.set_cons_succ]
                      refine wpParts_det (by rfl) (fun W hE hN => ?_) ?_
                      · have hc := fun b o h => hE.cell (p := ⟨b, o, none⟩) h
                        go_simp; refine ⟨Below.refl _ _, ?_⟩; rfl
                      simp only [Act.put, List.setIfInBounds_toArray, List.set_cons_zero, List.set_cons_succ]
                      refine wpParts_det (by rfl) (fun W hE hN => ?_) ?_
                      · go_simp; refine ⟨Below.refl _ _, ?_⟩; rfl
                      simp only [Act.put, List.setIfInBounds_toArray, List.set_cons_zero, List.set_cons_succ]
                      refine wpParts_det (by rfl) (fun W hE hN => ?_) ?_
                      · go_simp; refine ⟨Below.refl _ _, ?_⟩; rfl
                      simp only [Act.put, List.setIfInBounds_toArray, List.set_cons_zero, List.set_cons_succ]
                      refine wpParts_det (by rfl) (fun W hE hN => ?_) ?_
                      · have hc := fun b o h => hE.cell (p := ⟨b, o, none⟩) h
                        go_simp; refine ⟨Below.refl _ _, ?_⟩; rfl
                      simp only [Act.put, List.setIfInBounds_toArray, List.set_cons_zero, List.set_cons_succ]
                      refine wpParts_det (by rfl) (fun W hE hN => ?_) ?_
                      · go_simp; refine ⟨Below.refl _ _, ?_⟩; rfl
                      simp only [Act.put, List.setIfInBounds_toArray, List.set_cons_zero, List.set_cons_succ]
                      refine wpParts_det (by rfl) (fun W hE hN => ?_) ?_
                      · have hc := fun b o h => hE.cell (p := ⟨b, o, none⟩) h
                        go_simp; refine ⟨Below.refl _ _, ?_⟩; rfl
                      simp only [Act.put, List.setIfInBounds_toArray, List.set_cons_zero, List.set_cons_succ]
                      refine wpParts_det (by rfl) (fun W hE hN => ?_) ?_
                      · go_simp; refine ⟨Below.refl _ _, ?_⟩; rfl
                      simp only [Act.put, List.setIfInBounds_toArray, List.set_cons_zero, List.set_cons_succ]
                      refine wpParts_det (by rfl) (fun W hE hN => ?_) ?_
                      · go_simp; refine ⟨Below.refl _ _, ?_⟩; rfl
                      simp only [Act.put, List.setIfInBounds_toArray, List.set_cons_zero, List.set_cons_succ]
                      refine wpParts_det (by rfl) (fun W hE hN => ?_) ?_
                      · have hc := fun b o h => hE.cell (p := ⟨b, o, none⟩) h
                        go_simp; refine ⟨Below.refl _ _, ?_⟩; rfl
                      simp only [Act.put, List.setIfInBounds_toArray, List.set_cons_zero, List.set_cons_succ]
                      refine wpParts_det (by rfl) (fun W hE hN => ?_) ?_
                      · go_simp; refine ⟨Below.refl _ _, ?_⟩; rfl
                      simp only [Act.put, List.setIfInBounds_toArray, List.set_cons_zero, List.set_cons_succ]
                      refine wpParts_det (by rfl) (fun W hE hN => ?_) ?_
                      · go_simp; refine ⟨Below.refl _ _, ?_⟩; rfl
                      simp only [Act.put, List.setIfInBounds_toArray, List.set_cons_zero, List.set_cons_succ]
                      refine wpParts_det (by rfl) (fun W hE hN => ?_) ?_
                      · go_simp; refine ⟨Below.refl _ _, ?_⟩; rfl
                      simp only [Act.put, List.setIfInBounds_toArray, List.set_cons_zero, List.set_cons_succ]
                      refine wpParts_skip ?_ ?_
                      · rfl
                      simp only [Act.put, List.setIfInBounds_toArray, List.set_cons_zero, List.set_cons_succ]
                      refine wpParts_skip ?_ ?_
                      · rfl
                      simp only [Act.put, List.setIfInBounds_toArray, List.set_cons_zero, List.set_cons_succ]
                      refine wpParts_skip ?_ ?_
                      · rfl
                      simp only [Act.put, List.setIfInBounds_toArray, List.set_cons_zero, List.set_cons_succ]
                      refine wpParts_skip ?_ ?_
                      · rfl
                      simp only [Act.put, List.setIfInBounds_toArray, List.set_cons_zero, List.set_cons_succ]
                      refine wpParts_skip ?_ ?_
                      · rfl
                      simp only [Act.put, List.setIfInBounds_toArray, List.set_cons_zero, List.set_cons_succ]
                      refine wpParts_skip ?_ ?_
                      · rfl
                      simp only [Act.put, List.setIfInBounds_toArray, List.set_cons_zero, List.set_cons_succ]
                      refine wpParts_skip ?_ ?_
                      · rfl
                      simp only [Act.put, List.setIfInBounds_toArray, List.set_cons_zero, List.set_cons_succ]
                      refine wpParts_skip ?_ ?_
                      · rfl
                      simp only [Act.put, List.setIfInBounds_toArray, List.set_cons_zero, List.set_cons_succ]
                      refine wpParts_skip ?_ ?_
                      · rfl
                      simp only [Act.put, List.setIfInBounds_toArray, List.set_cons_zero, List.set_cons_succ]
                      refine wpParts_skip ?_ ?_
                      · rfl
                      simp only [Act.put, List.setIfInBounds_toArray, List.set_cons_zero, List.set_cons_succ]
                      refine wpParts_skip ?_ ?_
                      · rfl
                      simp only [Act.put, List.setIfInBounds_toArray, List.set_cons_zero, List.set_cons_succ]
                      refine wpParts_skip ?_ ?_
                      · rfl
                      simp only [Act.put, List.setIfInBounds_toArray, List.set_cons_zero, List.set_cons_succ]
                      refine wpParts_det (by rfl) (fun W hE hN => ?_) ?_
                      · go_simp; refine ⟨Below.refl _ _, ?_⟩; rfl
                      simp only [Act.put, List.setIfInBounds_toArray, List.set_cons_zero, List.set_cons_succ]
                      refine wpParts_end fun W2 hE2 hG2 => ?_
                      have hcW2 := fun b o h => hE2.cell (p := ⟨b, o, none⟩) h
                      have hfW2 := fun b o h => hE2.frozen (p := ⟨b, o, none⟩) h
                      have BEL := Lib.hid (BEL0.out.trans ((BELr.out.trans (hE2.mono BELr.out.size)).mono BEL0.out.size))
                      clear hE2 hcW2 hfW2 q1 l1 q2 l2
                      go_wp2
                      go_ret
                      exact ⟨rfl, BEL.out⟩
                  | true =>
                    have d5 : (z1.toList != z2.toList) = false := by rw [bne, hzz]; rfl
                    rw [hzz, Bool.or_true, Bool.true_and] at hor
                    have HO := Lib.hid hor
                    clear hor
                    go_wp2_with fail
                    refine' wp_region_seq [.inl _, .inl _, .inl _, .inl _, .inl _, .inl _, .inl _, .inl _, .inl _, .inl _, .inl _, .inl _, .inl _, .inl _, .inl _, .inl _, .inl _, .inl _, .inl _, .inl _, .inl _, .inl _, .inl _, .inl _, .inl _, .inl _, .inl _, .inl _, .inl _, .inl _] (by kernel_rfl) (by kernel_rfl) ?main2
                    case main2 =>
                      refine wpParts_det (by rfl) (fun W hE hN => ?_) ?_
                      · go_simp; refine ⟨Below.refl _ _, ?_⟩; rfl
                      simp only [Act.put, List.setIfInBounds_toArray, List.set_cons_zero, List.set_cons_succ]
                      refine wpParts_det (by rfl) (fun W hE hN => ?_) ?_
                      · have hc := fun b o h => hE.cell (p := ⟨b, o, none⟩) h
                        go_simp; refine ⟨Below.refl _ _, ?_⟩; rfl
                      simp only [Act.put, List.setIfInBounds_toArray, List.set_cons_zero, List.set_cons_succ]
                      refine wpParts_det (by rfl) (fun W hE hN => ?_) ?_
                      · go_simp; refine ⟨Below.refl _ _, ?_⟩; rfl
                      simp only [Act.put, List.setIfInBounds_toArray, List.set_cons_zero, List.set_cons_succ]
                      refine wpParts_det (by rfl) (fun W hE hN => ?_) ?_
                      · go_simp; refine ⟨Below.refl _ _, ?_⟩; rfl
                      simp only [Act.put, List.setIfInBounds_toArray, List.set_cons_zero, List.set_cons_succ]
                      refine wpParts_det (by rfl) (fun W hE hN => ?_) ?_
                      · go_simp; refine ⟨Below.refl _ _, ?_⟩; rfl
                      simp only [Act.put, List.setIfInBounds_toArray, List.set_cons_zero, List.set_cons_succ]
                      refine wpParts_det (by rfl) (fun W hE hN => ?_) ?_
                      · have hc := fun b o h => hE.cell (p := ⟨b, o, none⟩) h
                        go_simp; refine ⟨Below.refl _ _, ?_⟩; rfl
                      simp only [Act.put, List.setIfInBounds_toArray, List.set_cons_zero, List.set_cons_succ]
                      refine wpParts_det (by rfl) (fun W hE hN => ?_) ?_
                      · go_simp; refine ⟨Below.refl _ _, ?_⟩; rfl
                      simp only [Act.put, List.setIfInBounds_toArray, List.set_cons_zero, List.set_cons_succ]
                      refine wpParts_det (by rfl) (fun W hE hN => ?_) ?_
                      · go_simp; refine ⟨Below.refl _ _, ?_⟩; rfl
                      simp only [Act.put, List.setIfInBounds_toArray, List.set_cons_zero, List.set_cons_succ]
                      refine wpParts_det (by rfl) (fun W hE hN => ?_) ?_
                      · have hc := fun b o h => hE.cell (p := ⟨b, o, none⟩) h
                        go_simp; refine ⟨Below.refl _ _, ?_⟩; rfl
                      simp only [Act.put, List.setIfInBounds_toArray, List.set_cons_zero, List.set_cons_succ]
                      refine wpParts_det (by rfl) (fun W hE hN => ?_) ?_
                      · go_simp; refine ⟨Below.refl _ _, ?_⟩; rfl
                      simp only [Act.put, List.setIfInBounds_toArray, List.set_cons_zero, List.set_cons_succ]
                      refine wpParts_det (by rfl) (fun W hE hN => ?_) ?_
                      · have hc := fun b o h => hE.cell (p := ⟨b, o, none⟩) h
                        go_simp; refine ⟨Below.refl _ _, ?_⟩; rfl
                      simp only [Act.put, List.setIfInBounds_toArray, List.set_cons_zero, List.set_cons_succ]
                      refine wpParts_det (by rfl) (fun W hE hN => ?_) ?_
                      · go_simp; refine ⟨Below.refl _ _, ?_⟩; rfl
                      simp only [Act.put, List.setIfInBounds_toArray, List.set_cons_zero, List.set_cons_succ]
                      refine wpParts_det (by rfl) (fun W hE hN => ?_) ?_
                      · go_simp; refine ⟨Below.refl _ _, ?_⟩; rfl
                      simp only [Act.put, List.setIfInBounds_toArray, List.set_cons_zero, List.set_cons_succ]
                      refine wpParts_det (by rfl) (fun W hE hN => ?_) ?_
                      · have hc := fun b o h => hE.cell (p := ⟨b, o, none⟩) h
                        go_simp; refine ⟨Below.refl _ _, ?_⟩; rfl
                      simp only [Act.put, List.setIfInBounds_toArray, List.set_cons_zero, List.set_cons_succ]
                      refine wpParts_det (by rfl) (fun W hE hN => ?_) ?_
                      · go_simp; refine ⟨Below.refl _ _, ?_⟩; rfl
                      simp only [Act.put, List.setIfInBounds_toArray, List.set_cons_zero, List.set_cons_succ]
                      refine wpParts_det (by rfl) (fun W hE hN => ?_) ?_
                      · go_simp; refine ⟨Below.refl _ _, ?_⟩; rfl
                      simp only [Act.put, List.setIfInBounds_toArray, List.set_cons_zero, List.set_cons_succ]
                      refine wpParts_det (by rfl) (fun W hE hN => ?_) ?_
                      · go_simp; refine ⟨Below.refl _ _, ?_⟩; rfl
                      simp only [Act.put, List.setIfInBounds_toArray, List.set_cons_zero, List.set_cons_succ]
                      refine wpParts_det (by rfl) (fun W hE hN => ?_) ?_
                      · go_simp; refine ⟨Below.refl _ _, ?_⟩; rfl
                      simp only [Act.put, List.setIfInBounds_toArray, List.set_cons_zero, List.set_cons_succ]
                      refine wpParts_det (by rfl) (fun W hE hN => ?_) ?_
                      · have hc := fun b o h => hE.cell (p := ⟨b, o, none⟩) h
                        go_simp; refine ⟨Below.refl _ _, ?_⟩; rfl
                      simp only [Act.put, List.setIfInBounds_toArray, List.set_cons_zero, List.set_cons_succ]
                      refine wpParts_det (by rfl) (fun W hE hN => ?_) ?_
                      · go_simp; refine ⟨Below.refl _ _, ?_⟩; rfl
                      simp only [Act.put, List.setIfInBounds_toArray, List.set_cons_zero, List.set_cons_succ]
                      refine wpParts_det (by rfl) (fun W hE hN => ?_) ?_
                      · go_simp; refine ⟨Below.refl _ _, ?_⟩; rfl
                      simp only [Act.put, List.setIfInBounds_toArray, List.set_cons_zero, List.set_cons_succ]
                      refine wpParts_det (by rfl) (fun W hE hN => ?_) ?_
                      · have hc := fun b o h => hE.cell (p := ⟨b, o, none⟩) h
                        go_simp; refine ⟨Below.refl _ _, ?_⟩; rfl
                      simp only [Act.put, List.setIfInBounds_toArray, List.set_cons_zero, List.set_cons_succ]
                      refine wpParts_det (by rfl) (fun W hE hN => ?_) ?_
                      · go_simp; refine ⟨Below.refl _ _, ?_⟩; rfl
                      simp only [Act.put, List.setIfInBounds_toArray, List.set_cons_zero, List.set_cons_succ]
                      refine wpParts_det (by rfl) (fun W hE hN => ?_) ?_
                      · have hc := fun b o h => hE.cell (p := ⟨b, o, none⟩) h
                        go_simp; refine ⟨Below.refl _ _, ?_⟩; rfl
                      simp only [Act.put, List.setIfInBounds_toArray, List.set_cons_zero, List.set_cons_succ]
                      refine wpParts_det (by rfl) (fun W hE hN => ?_) ?_
                      · go_simp; refine ⟨Below.refl _ _, ?_⟩; rfl
                      simp only [Act.put, List.setIfInBounds_toArray, List.set_cons_zero, List.set_cons_succ]
                      refine wpParts_det (by rfl) (fun W hE hN => ?_) ?_
                      · go_simp; refine ⟨Below.refl _ _, ?_⟩; rfl
                      simp only [Act.put, List.setIfInBounds_toArray, List.set_cons_zero, List.set_cons_succ]
                      refine wpParts_det (by rfl) (fun W hE hN => ?_) ?_
                      · have hc := fun b o h => hE.cell (p := ⟨b, o, none⟩) h
                        go_simp; refine ⟨Below.refl _ _, ?_⟩; rfl
                      simp only [Act.put, List.setIfInBounds_toArray, List.set_cons_zero, List.set_cons_succ]
                      refine wpParts_det (by rfl) (fun W hE hN => ?_) ?_
                      · go_simp; refine ⟨Below.refl _ _, ?_⟩; refine (CALL.out W hE).mono ?_; rintro e w' ⟨rfl, hb⟩; refine ⟨?_, hb⟩; rfl
                      simp only [Act.put, List.setIfInBounds_toArray, List.set_cons_zero, List.set_cons_succ]
                      refine wpParts_det (by rfl) (fun W hE hN => ?_) ?_
                      · go_simp; refine ⟨Below.refl _ _, ?_⟩; rfl
                      simp only [Act.put, List.setIfInBounds_toArray, List.set_cons_zero, List.set_cons_succ]
                      refine wpParts_det (by rfl) (fun W hE hN => ?_) ?_
                      · go_simp; refine ⟨Below.refl _ _, ?_⟩; rfl
                      simp only [Act.put, List.setIfInBounds_toArray, List.set_cons_zero, List.set_cons_succ]
                      refine wpParts_end fun W2 hE2 hG2 => ?_
                      have hcW2 := fun b o h => hE2.cell (p := ⟨b, o, none⟩) h
                      have hfW2 := fun b o h => hE2.frozen (p := ⟨b, o, none⟩) h
                      have BELw := Lib.hid (BELr.out.trans (hE2.mono BELr.out.size))
                      clear hE2 hcW2 hfW2 q1 l1 q2 l2 CALL
                      cases q with
                      | true =>
                        have HO2 := Lib.hid (show oneL (oneV d e) _ (xf.kids.drop (i + 1)) (yf.kids.drop (i + 1)) (xf.keys.drop (i + 1)) (yf.keys.drop (i + 1)) = r by have h := HO.out; rw [Bool.true_and] at h; exact h)
                        go_wp2_with fail
                        go_roundw
                        case rel => exact ⟨i + 1, HLT.out, by go_num, HO2.out, BELw.out⟩
                        case measure => have := HLT.out; simp [intOf]; omega
                      | false =>
                        have e7 : r = false := by rw [← HO.out, Bool.false_and]
                        have BEL := Lib.hid (BEL0.out.trans (BELw.out.mono BEL0.out.size))
                        clear HO HOR HR2
                        subst e7
                        go_wp2
                        go_ret
                        exact ⟨rfl, BEL.out⟩
                · have d6 : (kind == 6) = false := by simp [h6]
                  rw [decide_eq_false h6, Bool.not_false, Bool.true_or, Bool.true_and] at hor
                  have HO := Lib.hid hor
                  clear hor h6
                  go_wp2_with fail
                  refine' wp_region_seq [.inl _, .inl _, .inl _, .inl _, .inl undef, .inl undef, .inl undef, .inl undef, .inl undef, .inl undef, .inl undef, .inl undef, .inl undef, .inl undef, .inl undef, .inl _, .inl _, .inl _, .inl _, .inl _, .inl _, .inl _, .inl _, .inl _, .inl _, .inl _, .inl _, .inl _, .inl _, .inl _] (by kernel_rfl) (by kernel_rfl) ?main3
                  case main3 =>
                    refine wpParts_det (by rfl) (fun W hE hN => ?_) ?_
                    · go_simp; refine ⟨Below.refl _ _, ?_⟩; rfl
                    simp only [Act.put, List.setIfInBounds_toArray, List.set_cons_zero, List.set_cons_succ]
                    refine wpParts_det (by rfl) (fun W hE hN => ?_) ?_
                    · have hc := fun b o h => hE.cell (p := ⟨b, o, none⟩) h
                      go_simp; refine ⟨Below.refl _ _, ?_⟩; rfl
                    simp only [Act.put, List.setIfInBounds_toArray, List.set_cons_zero, List.set_cons_succ]
                    refine wpParts_det (by rfl) (fun W hE hN => ?_) ?_
                    · go_simp; refine ⟨Below.refl _ _, ?_⟩; rfl
                    simp only [Act.put, List.setIfInBounds_toArray, List.set_cons_zero, List.set_cons_succ]
                    refine wpParts_det (by rfl) (fun W hE hN => ?_) ?_
                    · go_simp; refine ⟨Below.refl _ _, ?_⟩; rfl
                    simp only [Act.put, List.setIfInBounds_toArray, List.set_cons_zero, List.set_cons_succ]
                    refine wpParts_skip ?_ ?_
                    · rfl
                    simp only [Act.put, List.setIfInBounds_toArray, List.set_cons_zero, List.set_cons_succ]
                    refine wpParts_skip ?_ ?_
                    · rfl
                    simp only [Act.put, List.setIfInBounds_toArray, List.set_cons_zero, List.set_cons_succ]
                    refine wpParts_skip ?_ ?_
                    · rfl
                    simp only [Act.put, List.setIfInBounds_toArray, List.set_cons_zero, List.set_cons_succ]
                    refine wpParts_skip ?_ ?_
                    · rfl
                    simp only [Act.put, List.setIfInBounds_toArray, List.set_cons_zero, List.set_cons_succ]
                    refine wpParts_skip ?_ ?_
                    · rfl
                    simp only [Act.put, List.setIfInBounds_toArray, List.set_cons_zero, List.set_cons_succ]
                    refine wpParts_skip ?_ ?_
                    · rfl
                    simp only [Act.put, List.setIfInBounds_toArray, List.set_cons_zero, List.set_cons_succ]
                    refine wpParts_skip ?_ ?_
                    · rfl
                    simp only [Act.put, List.setIfInBounds_toArray, List.set_cons_zero, List.set_cons_succ]
                    refine wpParts_skip ?_ ?_
                    · rfl
                    simp only [Act.put, List.setIfInBounds_toArray, List.set_cons_zero, List.set_cons_succ]
                    refine wpParts_skip ?_ ?_
                    · rfl
                    simp only [Act.put, List.setIfInBounds_toArray, List.set_cons_zero, List.set_cons_succ]
                    refine wpParts_skip ?_ ?_
                    · rfl
                    simp only [Act.put, List.setIfInBounds_toArray, List.set_cons_zero, List.set_cons_succ]
                    refine wpParts_skip ?_ ?_
                    · rfl
                    simp only [Act.put, List.setIfInBounds_toArray, List.set_cons_zero, List.set_cons_succ]
                    refine wpParts_det (by rfl) (fun W hE hN => ?_) ?_
                    · go_simp; refine ⟨Below.refl _ _, ?_⟩; rfl
                    simp only [Act.put, List.setIfInBounds_toArray, List.set_cons_zero, List.set_cons_succ]
                    refine wpParts_det (by rfl) (fun W hE hN => ?_) ?_
                    · go_simp; refine ⟨Below.refl _ _, ?_⟩; rfl
                    simp only [Act.put, List.setIfInBounds_toArray, List.set_cons_zero, List.set_cons_succ]
                    refine wpParts_det (by rfl) (fun W hE hN => ?_) ?_
                    · go_simp; refine ⟨Below.refl _ _, ?_⟩; rfl
                    simp only [Act.put, List.setIfInBounds_toArray, List.set_cons_zero, List.set_cons_succ]
                    refine wpParts_det (by rfl) (fun W hE hN => ?_) ?_
                    · have hc := fun b o h => hE.cell (p := ⟨b, o, none⟩) h
                      go_simp; refine ⟨Below.refl _ _, ?_⟩; rfl
                    simp only [Act.put, List.setIfInBounds_toArray, List.set_cons_zero, List.set_cons_succ]
                    refine wpParts_det (by rfl) (fun W hE hN => ?_) ?_
                    · go_simp; refine ⟨Below.refl _ _, ?_⟩; rfl
                    simp only [Act.put, List.setIfInBounds_toArray, List.set_cons_zero, List.set_cons_succ]
                    refine wpParts_det (by rfl) (fun W hE hN => ?_) ?_
                    · go_simp; refine ⟨Below.refl _ _, ?_⟩; rfl
                    simp only [Act.put, List.setIfInBounds_toArray, List.set_cons_zero, List.set_cons_succ]
                    refine wpParts_det (by rfl) (fun W hE hN => ?_) ?_
                    · have hc := fun b o h => hE.cell (p := ⟨b, o, none⟩) h
                      go_simp; refine ⟨Below.refl _ _, ?_⟩; rfl
                    simp only [Act.put, List.setIfInBounds_toArray, List.set_cons_zero, List.set_cons_succ]
                    refine wpParts_det (by rfl) (fun W hE hN => ?_) ?_
                    · go_simp; refine ⟨Below.refl _ _, ?_⟩; rfl
                    simp only [Act.put, List.setIfInBounds_toArray, List.set_cons_zero, List.set_cons_succ]
                    refine wpParts_det (by rfl) (fun W hE hN => ?_) ?_
                    · have hc := fun b o h => hE.cell (p := ⟨b, o, none⟩) h
                      go_simp; refine ⟨Below.refl _ _, ?_⟩; rfl
                    simp only [Act.put, List.setIfInBounds_toArray, List.set_cons_zero, List.set_cons_succ]
                    refine wpParts_det (by rfl) (fun W hE hN => ?_) ?_
                    · go_simp; refine ⟨Below.refl _ _, ?_⟩; rfl
                    simp only [Act.put, List.setIfInBounds_toArray, List.set_cons_zero, List.set_cons_succ]
                    refine wpParts_det (by rfl) (fun W hE hN => ?_) ?_
                    · go_simp; refine ⟨Below.refl _ _, ?_⟩; rfl
                    simp only [Act.put, List.setIfInBounds_toArray, List.set_cons_zero, List.set_cons_succ]
                    refine wpParts_det (by rfl) (fun W hE hN => ?_) ?_
                    · have hc := fun b o h => hE.cell (p := ⟨b, o, none⟩) h
                      go_simp; refine ⟨Below.refl _ _, ?_⟩; rfl
                    simp only [Act.put, List.setIfInBounds_toArray, List.set_cons_zero, List.set_cons_succ]
                    refine wpParts_det (by rfl) (fun W hE hN => ?_) ?_
                    · go_simp; refine ⟨Below.refl _ _, ?_⟩; refine (CALL.out W hE).mono ?_; rintro e w' ⟨rfl, hb⟩; refine ⟨?_, hb⟩; rfl
                    simp only [Act.put, List.setIfInBounds_toArray, List.set_cons_zero, List.set_cons_succ]
                    refine wpParts_det (by rfl) (fun W hE hN => ?_) ?_
                    · go_simp; refine ⟨Below.refl _ _, ?_⟩; rfl
                    simp only [Act.put, List.setIfInBounds_toArray, List.set_cons_zero, List.set_cons_succ]
                    refine wpParts_det (by rfl) (fun W hE hN => ?_) ?_
                    · go_simp; refine ⟨Below.refl _ _, ?_⟩; rfl
                    simp only [Act.put, List.setIfInBounds_toArray, List.set_cons_zero, List.set_cons_succ]
                    refine wpParts_end fun W2 hE2 hG2 => ?_
                    have hcW2 := fun b o h => hE2.cell (p := ⟨b, o, none⟩) h
                    have hfW2 := fun b o h => hE2.frozen (p := ⟨b, o, none⟩) h
                    have BELw := Lib.hid (BELr.out.trans (hE2.mono BELr.out.size))
                    clear hE2 hcW2 hfW2 q1 l1 q2 l2 CALL
                    cases q with
                    | true =>
                      have HO2 := Lib.hid (show oneL (oneV d e) _ (xf.kids.drop (i + 1)) (yf.kids.drop (i + 1)) (xf.keys.drop (i + 1)) (yf.keys.drop (i + 1)) = r by have h := HO.out; rw [Bool.true_and] at h; exact h)
                      go_wp2_with fail
                      go_roundw
                      case rel => exact ⟨i + 1, HLT.out, by go_num, HO2.out, BELw.out⟩
                      case measure => have := HLT.out; simp [intOf]; omega
                    | false =>
                      have e7 : r = false := by rw [← HO.out, Bool.false_and]
                      have BEL := Lib.hid (BEL0.out.trans (BELw.out.mono BEL0.out.size))
                      clear HO HOR HR2
                      subst e7
                      go_wp2
                      go_ret
                      exact ⟨rfl, BEL.out⟩
              · have g1 : ¬ (i : Int) < (kl : Int) := by omega
                have e5 : r = true := by
                  have h := HOR.out
                  rw [List.drop_eq_nil_of_le (by have := HKL.out; omega)] at h
                  exact h.symm
                have BEL := Lib.hid (BEL0.out.trans (BELr.out.mono BEL0.out.size))
                clear HOR HR2 hlt hi
                subst e5
                go_wp2
                go_ret
                exact ⟨rfl, by have h := BEL.out; exact (by repeat (first | (with_reducible exact Below.refl _ _) | (with_reducible exact Below.refl _ _) | (with_reducible refine Below.setCell ?_ (by first | omega | (simp; done) | (simp; omega)) _) | (with_reducible refine Below.alloc ?_ (by first | omega | (simp; done) | (simp; omega)) _) | (with_reducible refine Below.drew ?_) | (with_reducible refine below_drewN ?_ _) | (with_reducible refine Below.trans ?_ (h.mono (by first | omega | (simp; done) | (simp; omega))))))⟩
          · have d4 : ((kl : Int) != (ml : Int)) = true := by simp; omega
            have e : r = false := by rw [← HR.out, decide_eq_false e4]; simp
            have d3 : (s.toList != s'.toList) = false := by rw [bne, e3]; rfl
            clear HR e4 hkl hml
            subst e
            go_enter Try.func40, Try.ntmps40
            go_wp2
            go_ret
            exact ⟨rfl, (by repeat (first | (with_reducible exact Below.refl _ _) | (with_reducible exact Below.refl _ _) | (with_reducible refine Below.setCell ?_ (by first | omega | (simp; done) | (simp; omega)) _) | (with_reducible refine Below.alloc ?_ (by first | omega | (simp; done) | (simp; omega)) _) | (with_reducible refine Below.drew ?_) | (with_reducible refine below_drewN ?_ _)))⟩
        | false =>
          have d3 : (s.toList != s'.toList) = true := by rw [bne, e3]; rfl
          have e : r = false := by rw [← HR.out, e3]; simp
          clear HR hkl hml
          subst e
          go_enter Try.func40, Try.ntmps40
          go_wp2
          go_ret
          exact ⟨rfl, (by repeat (first | (with_reducible exact Below.refl _ _) | (with_reducible exact Below.refl _ _) | (with_reducible refine Below.setCell ?_ (by first | omega | (simp; done) | (simp; omega)) _) | (with_reducible refine Below.alloc ?_ (by first | omega | (simp; done) | (simp; omega)) _) | (with_reducible refine Below.drew ?_) | (with_reducible refine below_drewN ?_ _)))⟩
      · have d2 : (n != n') = true := by simp [e2]
        have e : r = false := by rw [← HR.out, decide_eq_false e2]; simp
        clear HR e2 hkl hml
        subst e
        go_enter Try.func40, Try.ntmps40
        go_wp2
        go_ret
        exact ⟨rfl, (by repeat (first | (with_reducible exact Below.refl _ _) | (with_reducible exact Below.refl _ _) | (with_reducible refine Below.setCell ?_ (by first | omega | (simp; done) | (simp; omega)) _) | (with_reducible refine Below.alloc ?_ (by first | omega | (simp; done) | (simp; omega)) _) | (with_reducible refine Below.drew ?_) | (with_reducible refine below_drewN ?_ _)))⟩
    · have d1 : (kind != kind') = true := by simp [e1]
      have e : r = false := by rw [← HR.out, decide_eq_false e1]; rfl
      clear HR e1 hkl hml
      subst e
      go_enter Try.func40, Try.ntmps40
      go_wp2
      go_ret
      exact ⟨rfl, (by repeat (first | (with_reducible exact Below.refl _ _) | (with_reducible exact Below.refl _ _) | (with_reducible refine Below.setCell ?_ (by first | omega | (simp; done) | (simp; omega)) _) | (with_reducible refine Below.alloc ?_ (by first | omega | (simp; done) | (simp; omega)) _) | (with_reducible refine Below.drew ?_) | (with_reducible refine below_drewN ?_ _)))⟩
end Go.Proofs.Ytdebmifjfemcjaa
