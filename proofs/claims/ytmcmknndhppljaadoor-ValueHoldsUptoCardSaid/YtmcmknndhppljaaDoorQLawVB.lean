/-
  The law ValueHolds, walked.
-/
import Derived.Test.YtmcmknndhppljaaDoorVbM
namespace Go.Proofs.YtmcmknndhppljaaDoor
set_option linter.unusedVariables false
set_option linter.unusedSimpArgs false
open Go.RowKit Go.Dav
attribute [local go_sem] Gives ite_val ite_val_true

set_option maxRecDepth 8000 in
set_option maxHeartbeats 8000000 in
theorem Tryd_ValueHolds (d : Nat) (x : ValN d) (v : Value) (w : World) (hv : ValAt w d v x) (hN : GlobAt w 0 [.int .i64 0, .int .i64 0] 143) :
    Calls Tryd.prog 9 #[v] w fun e' w' => e' = .returned (.bool true) ∧ Below w.heap.size w w' := by
  obtain ⟨d, rfl⟩ := hv.pos
  obtain ⟨ka, kl, kc, qa, ql, qc, h⟩ := hv
  obtain ⟨kind, n, s, kids, keys⟩ := x
  obtain ⟨rfl⟩ : v = .agg #[.int .i64 kind, .int .i64 n, .string s, .slice ka kl kc, .slice qa ql qc] := h.val
  have hv : ValAt w (d + 1) (.agg #[.int .i64 kind, .int .i64 n, .string s, .slice ka kl kc, .slice qa ql qc]) (⟨kind, n, s, kids, keys⟩ : ValF (ValN d)) := ⟨ka, kl, kc, qa, ql, qc, h⟩
  have hg : ∀ W, Below w.heap.size w W → GlobAt W 0 [.int .i64 0, .int .i64 0] 143 := fun W hb => hN.ext hb
  obtain ⟨X, hX⟩ : ∃ X : ValN (d + 1), (⟨kind, n, s, kids, keys⟩ : ValF (ValN d)) = X := ⟨_, rfl⟩
  have hXk : X.to.kids = kids := by rw [← hX]; rfl
  have hXq : X.to.keys = keys := by rw [← hX]; rfl
  have hXi : X.to.kind = kind := by rw [← hX]; rfl
  have hv : ValAt w (d + 1) (.agg #[.int .i64 kind, .int .i64 n, .string s, .slice ka kl kc, .slice qa ql qc]) X := hX ▸ hv
  obtain ⟨r, hr⟩ : ∃ r, rightV (d + 1) X = r := ⟨_, rfl⟩
  have hcr : sameV (d + 1) (d + 1) X X = r := by rw [← hr]; exact sameV_self _ X
  have HCH := Lib.hid (fun W (hb : Below w.heap.size w W) => by have q := Tryd_vCheck (d + 1) X _ W (ValAt.ext hb _ hv) (hg W hb); rw [hr] at q; exact q)
  have HS5 := Lib.hid (fun W (hb : Below w.heap.size w W) => by have q := Tryd_vSame (d + 1) (d + 1) X X _ _ W (ValAt.ext hb _ hv) (ValAt.ext hb _ hv) (hg W hb); rw [hcr] at q; exact q)
  have HD := Lib.hid (fun W (hb : Below w.heap.size w W) => by have q := Tryd_vDepth (d + 1) X _ W (ValAt.ext hb _ hv) (hg W hb); rw [hr] at q; exact q)
  have HM := Lib.hid (fun W (hb : Below w.heap.size w W) => by have q := Tryd_vNodes (d + 1) X _ W (ValAt.ext hb _ hv) (hg W hb); rw [hr] at q; exact q)
  have HR := Lib.hid hr
  have b0 : Below w.heap.size w (w.alloc (.cells #[.int .i64 kind, .int .i64 n, .string s, .slice ka kl kc, .slice qa ql qc] 39)) := (by repeat (first | (with_reducible exact Below.refl _ _) | (with_reducible exact Below.refl _ _) | (with_reducible refine Below.setCell ?_ (by first | omega | (simp; done) | (simp; omega)) _) | (with_reducible refine Below.alloc ?_ (by first | omega | (simp; done) | (simp; omega)) _) | (with_reducible refine Below.drew ?_) | (with_reducible refine below_drewN ?_ _)))
  have HW := Lib.hid (Tryd_wakes04 _ (hg _ b0))
  have B0 := Lib.hid b0
  have X0 := Lib.hid (Blk.new w [.int .i64 kind, .int .i64 n, .string s, .slice ka kl kc, .slice qa ql qc] 39)
  have HK := Lib.hid h.kidsAt
  have HQ := Lib.hid h.keys
  have HLEN := Lib.hid (show kids.length = kl from h.hlen)
  have HQL := Lib.hid (show keys.length = ql from h.keys.hlen)
  have HV := Lib.hid hv
  have HG := Lib.hid hg
  have hfew : (kl : Int) ≤ 140737488355328 := by have := h.hfew; omega
  have HXK := Lib.hid hXk
  have HXQ := Lib.hid hXq
  have HXI := Lib.hid hXi
  clear hr hcr hg hv hN b0 hX hXk hXq hXi h
  obtain ⟨D, hD⟩ : ∃ D, depthV (d + 1) X = D := ⟨_, rfl⟩
  obtain ⟨M, hM⟩ : ∃ M, nodesV (d + 1) X = M := ⟨_, rfl⟩
  rw [hD] at HD
  rw [hM] at HM
  have HDD := Lib.hid hD
  have HMM := Lib.hid hM
  clear hD hM
  go_enter Tryd.func9, Tryd.ntmps9
  go_wp2_with fail
  refine HW.out.mono ?_; rintro e' w1 ⟨rfl, hb1⟩
  have B1 := Lib.hid (B0.out.trans (hb1.mono B0.out.size))
  have X1 := Lib.hid (X0.out.ext hb1)
  have q1 := X1.out.cells
  have lt1 := X1.out.lt
  clear hb1 HW X0 B0
  go_wp2_with fail
  refine (HCH.out _ B1.out).mono ?_; rintro e' w2 ⟨rfl, hb2⟩
  have B2 := Lib.hid (B1.out.trans (hb2.mono B1.out.size))
  have X2 := Lib.hid (X1.out.ext hb2)
  have q1 := X2.out.cells
  have lt1 := X2.out.lt
  clear hb2 HCH X1 B1
  cases r with
  | false =>
    rw [show valE false = 140 from rfl]
    go_wp2_with fail
    refine (HD.out _ B2.out).mono ?_; rintro e' w3 ⟨rfl, hb3⟩
    rw [show ifR false D = 0 from rfl]
    have B3 := Lib.hid (B2.out.trans (hb3.mono B2.out.size))
    have X3 := Lib.hid (X2.out.ext hb3)
    have q1 := X3.out.cells
    have lt1 := X3.out.lt
    clear hb3 X2 B2
    go_wp2_with fail
    refine (HM.out _ B3.out).mono ?_; rintro e' w4 ⟨rfl, hb4⟩
    rw [show ifR false M = 0 from rfl]
    have B4 := Lib.hid (B3.out.trans (hb4.mono B3.out.size))
    have X4 := Lib.hid (X3.out.ext hb4)
    have q1 := X4.out.cells
    have lt1 := X4.out.lt
    clear hb4 X3 B3
    go_wp2_with fail
    refine (HS5.out _ B4.out).mono ?_; rintro e' w5 ⟨rfl, hb5⟩
    have B5 := Lib.hid (B4.out.trans (hb5.mono B4.out.size))
    clear hb5
    go_wp2
    go_ret
    exact ⟨rfl, B5.out⟩
  | true =>
    rw [show valE true = 0 from rfl]
    have hri := right_iff.1 HR.out
    have ha := right_alone HR.out
    have HM8 := Lib.hid (show D ≤ 8 from by have := hri.2.1; rw [HDD.out] at this; exact this)
    have HM256 := Lib.hid (show M ≤ 256 from by have := hri.2.2; rw [HMM.out] at this; exact this)
    have HSUM := Lib.hid (show 1 + (kids.map (nodesV d)).sum = M from by rw [← HMM.out, ← HXK.out]; rfl)
    have HMAX := Lib.hid (show (kids.map (depthV d)).foldr max 0 ≤ 8 from by
      have h8 := HM8.out
      rw [← HDD.out, show depthV (d + 1) X = if X.to.kind < 5 then 0 else (X.to.kids.map (depthV d)).foldr max 0 + 1 from rfl, HXK.out] at h8
      by_cases h5 : X.to.kind < 5
      · have := alone_leaf ha h5
        rw [HXK.out] at this
        rw [this]; simp
      · rw [if_neg h5] at h8; omega)
    clear hri ha
    go_wp2_with fail
    go_loopw [3, 4, 29] (fun dv nv ix wr => ∃ i m k : Nat, i ≤ kl ∧ ix = .int .i64 (i : Int) ∧ dv = .int .i64 (m : Int) ∧ nv = .int .i64 (k : Int) ∧ m = ((kids.take i).map (depthV d)).foldr max 0 ∧ k = 1 + ((kids.take i).map (nodesV d)).sum ∧ Blk wr w.heap.size [.int .i64 kind, .int .i64 n, .string s, .slice ka kl kc, .slice qa ql qc] 39 ∧ Below w.heap.size w wr) (fun _ _ ix _ => kl - (intOf ix).toNat)
    case atStart => exact ⟨0, 0, 1, Nat.zero_le _, by go_num, by go_num, by go_num, by simp, by simp, X2.out, B2.out⟩
    case round =>
      obtain ⟨i, m, k, hi, rfl, rfl, rfl, hmm, hkk, hq1, hbel⟩ := hrel
      have q1 := hq1.cells
      have l1 := hq1.lt
      have HQ1 := Lib.hid hq1
      have HBE := Lib.hid hbel
      have HMI := Lib.hid hmm
      have HKI := Lib.hid hkk
      clear hq1 hbel hmm hkk
      by_cases hlt : i < kl
      · have g1 : (i : Int) < (kl : Int) := by omega
        obtain ⟨y, hy⟩ : ∃ y, kids[i]? = some y := ⟨_, List.getElem?_eq_getElem (by have := HLEN.out; omega)⟩
        have hry : rightV d y = true := right_kid HR.out (i := i) (by rw [HXK.out]; exact hy)
        obtain ⟨b, o, k', n', s', a1, l1', c1, a2, l2, c2, rfl, hb, x0, x1, x2, x3, x4, hval⟩ := (HK.out.ext HBE.out).get hy
        have hval' : ValAt wr d (.agg #[.int .i64 k', .int .i64 n', .string s', .slice a1 l1' c1, .slice a2 l2 c2]) y := hval
        obtain ⟨t, ht⟩ : ∃ t, nodesV d y = t := ⟨_, rfl⟩
        obtain ⟨dd, hdd⟩ : ∃ dd, depthV d y = dd := ⟨_, rfl⟩
        have hst := sum_take (nodesV d) hy
        have hsm := max_take (depthV d) hy
        rw [ht] at hst
        rw [hdd] at hsm
        have HC1 := Lib.hid (fun W (hb' : Below wr.heap.size wr W) => by have q := Tryd_vCheck d y _ W (ValAt.ext hb' _ hval') (HG.out W (HBE.out.trans (hb'.mono HBE.out.size))); rw [hry, show valE true = 0 from rfl] at q; exact q)
        have HC2 := Lib.hid (fun W (hb' : Below wr.heap.size wr W) => by have q := Tryd_vDepth d y _ W (ValAt.ext hb' _ hval') (HG.out W (HBE.out.trans (hb'.mono HBE.out.size))); rw [hry, hdd, show ifR true dd = (dd : Int) from rfl] at q; exact q)
        have HC3 := Lib.hid (fun W (hb' : Below wr.heap.size wr W) => by have q := Tryd_vNodes d y _ W (ValAt.ext hb' _ hval') (HG.out W (HBE.out.trans (hb'.mono HBE.out.size))); rw [hry, ht, show ifR true t = (t : Int) from rfl] at q; exact q)
        have HC4 := Lib.hid (fun W key (hb' : Below wr.heap.size wr W) (hkey : keys[i]? = some key) => Tryd_reaches d d X y y _ _ key W (ValAt.ext (HBE.out.trans (hb'.mono HBE.out.size)) _ HV.out) (ValAt.ext hb' _ hval') HR.out (getV_at HR.out (by rw [HXQ.out]; exact hkey) (by rw [HXK.out]; exact hy)) ((sameV_self d y).trans hry) (HQ.out.hsz key (List.mem_of_getElem? hkey)) (HG.out W (HBE.out.trans (hb'.mono HBE.out.size))))
        have hsl := sum_le (nodesV d) kids (i + 1)
        have u1 : IntKind.i64.wrap ((k : Int) + (t : Int)) = (k : Int) + (t : Int) := by have := HKI.out; have := HSUM.out; have := HM256.out; exact IntWalk.i64_in _ (by omega)
        have HMX := Lib.hid (show max (m : Int) (dd : Int) = ((max m dd : Nat) : Int) from by omega)
        have HST := Lib.hid hst
        have HSM := Lib.hid hsm
        have HKQ := Lib.hid (HQ.out.ext HBE.out)
        have Y1 := Lib.hid (Blk.new wr [.int .i64 k', .int .i64 n', .string s', .slice a1 l1' c1, .slice a2 l2 c2] 39)
        have Z1 := Lib.hid (HQ1.out.alloc (.cells #[.int .i64 k', .int .i64 n', .string s', .slice a1 l1' c1, .slice a2 l2 c2] 39))
        have by1 : Below wr.heap.size wr (wr.alloc (.cells #[.int .i64 k', .int .i64 n', .string s', .slice a1 l1' c1, .slice a2 l2 c2] 39)) := (by repeat (first | (with_reducible exact Below.refl _ _) | (with_reducible exact Below.refl _ _) | (with_reducible refine Below.setCell ?_ (by first | omega | (simp; done) | (simp; omega)) _) | (with_reducible refine Below.alloc ?_ (by first | omega | (simp; done) | (simp; omega)) _) | (with_reducible refine Below.drew ?_) | (with_reducible refine below_drewN ?_ _)))
        have BY := Lib.hid by1
        clear hval hval' hst hsm hsl ht hdd by1
        by_cases hql : i < ql
        · have g2 : (i : Int) < (ql : Int) := by omega
          have g3 : decide (i < ql) = true := by simp; omega
          have g4 : decide ((i : Int) < (ql : Int)) = true := by simp; omega
          obtain ⟨key, hkey⟩ : ∃ key, keys[i]? = some key := ⟨_, List.getElem?_eq_getElem (by have := HQL.out; omega)⟩
          obtain ⟨bq, oq, rfl, hbq, hcell⟩ := HKQ.out.hat i key hkey
          have hbq' := hbq
          have HC5 := Lib.hid (fun W (hb' : Below wr.heap.size wr W) => HC4.out W key hb' hkey)
          clear HC4 hkey hy
          go_wp2_with fail
          refine' wp_region_seq [.inl _, .inl _, .inl _, .inl _, .inl _, .inl _, .inl _, .inl _, .inl _, .inl _, .inl _, .inl _, .inl _, .inl _, .inl _, .inl _, .inl _, .inl _, .inl _, .inl _, .inl _] (by kernel_rfl) (by kernel_rfl) ?main1
          case main1 =>
            refine wpParts_det (by rfl) (fun W hE hN => ?_) ?_
            · have hc := fun b o h => hE.cell (p := ⟨b, o, none⟩) h
              go_simp; refine ⟨Below.refl _ _, ?_⟩; rfl
            simp only [Act.put, List.setIfInBounds_toArray, List.set_cons_zero, List.set_cons_succ]
            refine wpParts_det (by rfl) (fun W hE hN => ?_) ?_
            · go_simp; refine ⟨Below.refl _ _, ?_⟩; refine (HC1.out W (BY.out.trans (hE.mono BY.out.size))).mono ?_; rintro e' w' ⟨rfl, hb⟩; refine ⟨?_, hb⟩; rfl
            simp only [Act.put, List.setIfInBounds_toArray, List.set_cons_zero, List.set_cons_succ]
            refine wpParts_det (by rfl) (fun W hE hN => ?_) ?_
            · go_simp; refine ⟨Below.refl _ _, ?_⟩; rfl
            simp only [Act.put, List.setIfInBounds_toArray, List.set_cons_zero, List.set_cons_succ]
            refine wpParts_det (by rfl) (fun W hE hN => ?_) ?_
            · go_simp; refine ⟨Below.refl _ _, ?_⟩; rfl
            simp only [Act.put, List.setIfInBounds_toArray, List.set_cons_zero, List.set_cons_succ]
            refine wpParts_det (by rfl) (fun W hE hN => ?_) ?_
            · go_simp; refine ⟨Below.refl _ _, ?_⟩; rfl
            simp only [Act.put, List.setIfInBounds_toArray, List.set_cons_zero, List.set_cons_succ]
            refine wpParts_det (by rfl) (fun W hE hN => ?_) ?_
            · go_simp; refine ⟨Below.refl _ _, ?_⟩; rfl
            simp only [Act.put, List.setIfInBounds_toArray, List.set_cons_zero, List.set_cons_succ]
            refine wpParts_det (by rfl) (fun W hE hN => ?_) ?_
            · have hc := fun b o h => hE.cell (p := ⟨b, o, none⟩) h
              go_simp; refine ⟨Below.refl _ _, ?_⟩; rfl
            simp only [Act.put, List.setIfInBounds_toArray, List.set_cons_zero, List.set_cons_succ]
            refine wpParts_det (by rfl) (fun W hE hN => ?_) ?_
            · go_simp; refine ⟨Below.refl _ _, ?_⟩; rfl
            simp only [Act.put, List.setIfInBounds_toArray, List.set_cons_zero, List.set_cons_succ]
            refine wpParts_det (by rfl) (fun W hE hN => ?_) ?_
            · go_simp; refine ⟨Below.refl _ _, ?_⟩; rfl
            simp only [Act.put, List.setIfInBounds_toArray, List.set_cons_zero, List.set_cons_succ]
            refine wpParts_det (by rfl) (fun W hE hN => ?_) ?_
            · go_simp; refine ⟨Below.refl _ _, ?_⟩; rfl
            simp only [Act.put, List.setIfInBounds_toArray, List.set_cons_zero, List.set_cons_succ]
            refine wpParts_det (by rfl) (fun W hE hN => ?_) ?_
            · have hc := fun b o h => hE.cell (p := ⟨b, o, none⟩) h
              go_simp; refine ⟨Below.refl _ _, ?_⟩; rfl
            simp only [Act.put, List.setIfInBounds_toArray, List.set_cons_zero, List.set_cons_succ]
            refine wpParts_det (by rfl) (fun W hE hN => ?_) ?_
            · go_simp; refine ⟨Below.refl _ _, ?_⟩; rfl
            simp only [Act.put, List.setIfInBounds_toArray, List.set_cons_zero, List.set_cons_succ]
            refine wpParts_det (by rfl) (fun W hE hN => ?_) ?_
            · have hc := fun b o h => hE.cell (p := ⟨b, o, none⟩) h
              go_simp; refine ⟨Below.refl _ _, ?_⟩; rfl
            simp only [Act.put, List.setIfInBounds_toArray, List.set_cons_zero, List.set_cons_succ]
            refine wpParts_det (by rfl) (fun W hE hN => ?_) ?_
            · go_simp; refine ⟨Below.refl _ _, ?_⟩; rfl
            simp only [Act.put, List.setIfInBounds_toArray, List.set_cons_zero, List.set_cons_succ]
            refine wpParts_det (by rfl) (fun W hE hN => ?_) ?_
            · go_simp; refine ⟨Below.refl _ _, ?_⟩; rfl
            simp only [Act.put, List.setIfInBounds_toArray, List.set_cons_zero, List.set_cons_succ]
            refine wpParts_det (by rfl) (fun W hE hN => ?_) ?_
            · have hc := fun b o h => hE.cell (p := ⟨b, o, none⟩) h
              go_simp; refine ⟨Below.refl _ _, ?_⟩; rfl
            simp only [Act.put, List.setIfInBounds_toArray, List.set_cons_zero, List.set_cons_succ]
            refine wpParts_det (by rfl) (fun W hE hN => ?_) ?_
            · have hc := fun b o h => hE.cell (p := ⟨b, o, none⟩) h
              go_simp; refine ⟨Below.refl _ _, ?_⟩; rfl
            simp only [Act.put, List.setIfInBounds_toArray, List.set_cons_zero, List.set_cons_succ]
            refine wpParts_det (by rfl) (fun W hE hN => ?_) ?_
            · go_simp; refine ⟨Below.refl _ _, ?_⟩; refine (HC5.out W (BY.out.trans (hE.mono BY.out.size))).mono ?_; rintro e' w' ⟨rfl, hb⟩; refine ⟨?_, hb⟩; rfl
            simp only [Act.put, List.setIfInBounds_toArray, List.set_cons_zero, List.set_cons_succ]
            refine wpParts_det (by rfl) (fun W hE hN => ?_) ?_
            · go_simp; refine ⟨Below.refl _ _, ?_⟩; rfl
            simp only [Act.put, List.setIfInBounds_toArray, List.set_cons_zero, List.set_cons_succ]
            refine wpParts_det (by rfl) (fun W hE hN => ?_) ?_
            · go_simp; refine ⟨Below.refl _ _, ?_⟩; rfl
            simp only [Act.put, List.setIfInBounds_toArray, List.set_cons_zero, List.set_cons_succ]
            refine wpParts_det (by rfl) (fun W hE hN => ?_) ?_
            · go_simp; refine ⟨Below.refl _ _, ?_⟩; rfl
            simp only [Act.put, List.setIfInBounds_toArray, List.set_cons_zero, List.set_cons_succ]
            refine wpParts_end fun W3 hE3 hG3 => ?_
            have hcW3 := fun b o h => hE3.cell (p := ⟨b, o, none⟩) h
            have hfW3 := fun b o h => hE3.frozen (p := ⟨b, o, none⟩) h
            have HB3 := Lib.hid (BY.out.trans (hE3.mono BY.out.size))
            have Y3 := Lib.hid (Y1.out.ext hE3)
            have Z3 := Lib.hid (Z1.out.ext hE3)
            have qy := Y3.out.cells
            have ly := Y3.out.lt
            clear hE3 hG3 hcW3 hfW3
            go_wp2_with fail
            refine' wp_region_seq [.inl _, .inl _, .inl _, .inl _, .inl _, .inl _, .inl _, .inl _, .inl _, .inl _] (by kernel_rfl) (by kernel_rfl) ?main2
            case main2 =>
              refine wpParts_det (by rfl) (fun W hE hN => ?_) ?_
              · go_simp; refine ⟨Below.refl _ _, ?_⟩; rfl
              simp only [Act.put, List.setIfInBounds_toArray, List.set_cons_zero, List.set_cons_succ]
              refine wpParts_det (by rfl) (fun W hE hN => ?_) ?_
              · have hc := fun b o h => hE.cell (p := ⟨b, o, none⟩) h
                go_simp; refine ⟨Below.refl _ _, ?_⟩; rfl
              simp only [Act.put, List.setIfInBounds_toArray, List.set_cons_zero, List.set_cons_succ]
              refine wpParts_det (by rfl) (fun W hE hN => ?_) ?_
              · go_simp; refine ⟨Below.refl _ _, ?_⟩; refine (HC2.out W (HB3.out.trans (hE.mono HB3.out.size))).mono ?_; rintro e' w' ⟨rfl, hb⟩; refine ⟨?_, hb⟩; rfl
              simp only [Act.put, List.setIfInBounds_toArray, List.set_cons_zero, List.set_cons_succ]
              refine wpParts_det (by rfl) (fun W hE hN => ?_) ?_
              · go_simp; refine ⟨Below.refl _ _, ?_⟩; rw [HMX.out]
              simp only [Act.put, List.setIfInBounds_toArray, List.set_cons_zero, List.set_cons_succ]
              refine wpParts_det (by rfl) (fun W hE hN => ?_) ?_
              · go_simp; refine ⟨Below.refl _ _, ?_⟩; rfl
              simp only [Act.put, List.setIfInBounds_toArray, List.set_cons_zero, List.set_cons_succ]
              refine wpParts_det (by rfl) (fun W hE hN => ?_) ?_
              · have hc := fun b o h => hE.cell (p := ⟨b, o, none⟩) h
                go_simp; refine ⟨Below.refl _ _, ?_⟩; rfl
              simp only [Act.put, List.setIfInBounds_toArray, List.set_cons_zero, List.set_cons_succ]
              refine wpParts_det (by rfl) (fun W hE hN => ?_) ?_
              · go_simp; refine ⟨Below.refl _ _, ?_⟩; refine (HC3.out W (HB3.out.trans (hE.mono HB3.out.size))).mono ?_; rintro e' w' ⟨rfl, hb⟩; refine ⟨?_, hb⟩; rfl
              simp only [Act.put, List.setIfInBounds_toArray, List.set_cons_zero, List.set_cons_succ]
              refine wpParts_det (by rfl) (fun W hE hN => ?_) ?_
              · go_simp; refine ⟨Below.refl _ _, ?_⟩; rfl
              simp only [Act.put, List.setIfInBounds_toArray, List.set_cons_zero, List.set_cons_succ]
              refine wpParts_det (by rfl) (fun W hE hN => ?_) ?_
              · go_simp; refine ⟨Below.refl _ _, ?_⟩; rfl
              simp only [Act.put, List.setIfInBounds_toArray, List.set_cons_zero, List.set_cons_succ]
              refine wpParts_det (by rfl) (fun W hE hN => ?_) ?_
              · go_simp; refine ⟨Below.refl _ _, ?_⟩; rfl
              simp only [Act.put, List.setIfInBounds_toArray, List.set_cons_zero, List.set_cons_succ]
              refine wpParts_end fun W4 hE4 hG4 => ?_
              have hcW4 := fun b o h => hE4.cell (p := ⟨b, o, none⟩) h
              have hfW4 := fun b o h => hE4.frozen (p := ⟨b, o, none⟩) h
              have HB4 := Lib.hid (HB3.out.trans (hE4.mono HB3.out.size))
              have Z4 := Lib.hid (Z3.out.ext hE4)
              clear hE4 hG4 hcW4 hfW4
              go_wp2_with fail
              go_roundw
              case rel => exact ⟨i + 1, max m dd, k + t, by omega, by go_num, rfl, by go_num, by rw [HSM.out, ← HMI.out], by rw [HST.out, HKI.out]; omega, Z4.out, HBE.out.trans (HB4.out.mono HBE.out.size)⟩
              case measure => simp [intOf]; omega
        · have g2 : ¬ (i : Int) < (ql : Int) := by omega
          have g3 : decide (i < ql) = false := by simp; omega
          have g4 : decide ((i : Int) < (ql : Int)) = false := by simp; omega
          have g5 : ¬ i < ql := hql
          clear HC4 hy
          go_wp2_with fail
          refine' wp_region_seq [.inl _, .inl _, .inl _, .inl _, .inl _, .inl _, .inl _, .inl _, .inl _, .inl _, .inl undef, .inl undef, .inl undef, .inl undef, .inl undef, .inl undef, .inl undef, .inl undef, .inl undef, .inl _, .inl _] (by kernel_rfl) (by kernel_rfl) ?main3
          case main3 =>
            refine wpParts_det (by rfl) (fun W hE hN => ?_) ?_
            · have hc := fun b o h => hE.cell (p := ⟨b, o, none⟩) h
              go_simp; refine ⟨Below.refl _ _, ?_⟩; rfl
            simp only [Act.put, List.setIfInBounds_toArray, List.set_cons_zero, List.set_cons_succ]
            refine wpParts_det (by rfl) (fun W hE hN => ?_) ?_
            · go_simp; refine ⟨Below.refl _ _, ?_⟩; refine (HC1.out W (BY.out.trans (hE.mono BY.out.size))).mono ?_; rintro e' w' ⟨rfl, hb⟩; refine ⟨?_, hb⟩; rfl
            simp only [Act.put, List.setIfInBounds_toArray, List.set_cons_zero, List.set_cons_succ]
            refine wpParts_det (by rfl) (fun W hE hN => ?_) ?_
            · go_simp; refine ⟨Below.refl _ _, ?_⟩; rfl
            simp only [Act.put, List.setIfInBounds_toArray, List.set_cons_zero, List.set_cons_succ]
            refine wpParts_det (by rfl) (fun W hE hN => ?_) ?_
            · go_simp; refine ⟨Below.refl _ _, ?_⟩; rfl
            simp only [Act.put, List.setIfInBounds_toArray, List.set_cons_zero, List.set_cons_succ]
            refine wpParts_det (by rfl) (fun W hE hN => ?_) ?_
            · go_simp; refine ⟨Below.refl _ _, ?_⟩; rfl
            simp only [Act.put, List.setIfInBounds_toArray, List.set_cons_zero, List.set_cons_succ]
            refine wpParts_det (by rfl) (fun W hE hN => ?_) ?_
            · go_simp; refine ⟨Below.refl _ _, ?_⟩; rfl
            simp only [Act.put, List.setIfInBounds_toArray, List.set_cons_zero, List.set_cons_succ]
            refine wpParts_det (by rfl) (fun W hE hN => ?_) ?_
            · have hc := fun b o h => hE.cell (p := ⟨b, o, none⟩) h
              go_simp; refine ⟨Below.refl _ _, ?_⟩; rfl
            simp only [Act.put, List.setIfInBounds_toArray, List.set_cons_zero, List.set_cons_succ]
            refine wpParts_det (by rfl) (fun W hE hN => ?_) ?_
            · go_simp; refine ⟨Below.refl _ _, ?_⟩; rfl
            simp only [Act.put, List.setIfInBounds_toArray, List.set_cons_zero, List.set_cons_succ]
            refine wpParts_det (by rfl) (fun W hE hN => ?_) ?_
            · go_simp; refine ⟨Below.refl _ _, ?_⟩; rfl
            simp only [Act.put, List.setIfInBounds_toArray, List.set_cons_zero, List.set_cons_succ]
            refine wpParts_det (by rfl) (fun W hE hN => ?_) ?_
            · go_simp; refine ⟨Below.refl _ _, ?_⟩; rfl
            simp only [Act.put, List.setIfInBounds_toArray, List.set_cons_zero, List.set_cons_succ]
            refine wpParts_skip ?_ ?_
            · rfl
            simp only [Act.put, List.setIfInBounds_toArray, List.set_cons_zero, List.set_cons_succ]
            refine wpParts_skip ?_ ?_
            · rfl
            simp only [Act.put, List.setIfInBounds_toArray, List.set_cons_zero, List.set_cons_succ]
            refine wpParts_skip ?_ ?_
            · rfl
            simp only [Act.put, List.setIfInBounds_toArray, List.set_cons_zero, List.set_cons_succ]
            refine wpParts_skip ?_ ?_
            · rfl
            simp only [Act.put, List.setIfInBounds_toArray, List.set_cons_zero, List.set_cons_succ]
            refine wpParts_skip ?_ ?_
            · rfl
            simp only [Act.put, List.setIfInBounds_toArray, List.set_cons_zero, List.set_cons_succ]
            refine wpParts_skip ?_ ?_
            · rfl
            simp only [Act.put, List.setIfInBounds_toArray, List.set_cons_zero, List.set_cons_succ]
            refine wpParts_skip ?_ ?_
            · rfl
            simp only [Act.put, List.setIfInBounds_toArray, List.set_cons_zero, List.set_cons_succ]
            refine wpParts_skip ?_ ?_
            · rfl
            simp only [Act.put, List.setIfInBounds_toArray, List.set_cons_zero, List.set_cons_succ]
            refine wpParts_skip ?_ ?_
            · rfl
            simp only [Act.put, List.setIfInBounds_toArray, List.set_cons_zero, List.set_cons_succ]
            refine wpParts_det (by rfl) (fun W hE hN => ?_) ?_
            · go_simp; refine ⟨Below.refl _ _, ?_⟩; rfl
            simp only [Act.put, List.setIfInBounds_toArray, List.set_cons_zero, List.set_cons_succ]
            refine wpParts_det (by rfl) (fun W hE hN => ?_) ?_
            · go_simp; refine ⟨Below.refl _ _, ?_⟩; rfl
            simp only [Act.put, List.setIfInBounds_toArray, List.set_cons_zero, List.set_cons_succ]
            refine wpParts_end fun W3 hE3 hG3 => ?_
            have hcW3 := fun b o h => hE3.cell (p := ⟨b, o, none⟩) h
            have hfW3 := fun b o h => hE3.frozen (p := ⟨b, o, none⟩) h
            have HB3 := Lib.hid (BY.out.trans (hE3.mono BY.out.size))
            have Y3 := Lib.hid (Y1.out.ext hE3)
            have Z3 := Lib.hid (Z1.out.ext hE3)
            have qy := Y3.out.cells
            have ly := Y3.out.lt
            clear hE3 hG3 hcW3 hfW3
            go_wp2_with fail
            refine' wp_region_seq [.inl _, .inl _, .inl _, .inl _, .inl _, .inl _, .inl _, .inl _, .inl _, .inl _] (by kernel_rfl) (by kernel_rfl) ?main4
            case main4 =>
              refine wpParts_det (by rfl) (fun W hE hN => ?_) ?_
              · go_simp; refine ⟨Below.refl _ _, ?_⟩; rfl
              simp only [Act.put, List.setIfInBounds_toArray, List.set_cons_zero, List.set_cons_succ]
              refine wpParts_det (by rfl) (fun W hE hN => ?_) ?_
              · have hc := fun b o h => hE.cell (p := ⟨b, o, none⟩) h
                go_simp; refine ⟨Below.refl _ _, ?_⟩; rfl
              simp only [Act.put, List.setIfInBounds_toArray, List.set_cons_zero, List.set_cons_succ]
              refine wpParts_det (by rfl) (fun W hE hN => ?_) ?_
              · go_simp; refine ⟨Below.refl _ _, ?_⟩; refine (HC2.out W (HB3.out.trans (hE.mono HB3.out.size))).mono ?_; rintro e' w' ⟨rfl, hb⟩; refine ⟨?_, hb⟩; rfl
              simp only [Act.put, List.setIfInBounds_toArray, List.set_cons_zero, List.set_cons_succ]
              refine wpParts_det (by rfl) (fun W hE hN => ?_) ?_
              · go_simp; refine ⟨Below.refl _ _, ?_⟩; rw [HMX.out]
              simp only [Act.put, List.setIfInBounds_toArray, List.set_cons_zero, List.set_cons_succ]
              refine wpParts_det (by rfl) (fun W hE hN => ?_) ?_
              · go_simp; refine ⟨Below.refl _ _, ?_⟩; rfl
              simp only [Act.put, List.setIfInBounds_toArray, List.set_cons_zero, List.set_cons_succ]
              refine wpParts_det (by rfl) (fun W hE hN => ?_) ?_
              · have hc := fun b o h => hE.cell (p := ⟨b, o, none⟩) h
                go_simp; refine ⟨Below.refl _ _, ?_⟩; rfl
              simp only [Act.put, List.setIfInBounds_toArray, List.set_cons_zero, List.set_cons_succ]
              refine wpParts_det (by rfl) (fun W hE hN => ?_) ?_
              · go_simp; refine ⟨Below.refl _ _, ?_⟩; refine (HC3.out W (HB3.out.trans (hE.mono HB3.out.size))).mono ?_; rintro e' w' ⟨rfl, hb⟩; refine ⟨?_, hb⟩; rfl
              simp only [Act.put, List.setIfInBounds_toArray, List.set_cons_zero, List.set_cons_succ]
              refine wpParts_det (by rfl) (fun W hE hN => ?_) ?_
              · go_simp; refine ⟨Below.refl _ _, ?_⟩; rfl
              simp only [Act.put, List.setIfInBounds_toArray, List.set_cons_zero, List.set_cons_succ]
              refine wpParts_det (by rfl) (fun W hE hN => ?_) ?_
              · go_simp; refine ⟨Below.refl _ _, ?_⟩; rfl
              simp only [Act.put, List.setIfInBounds_toArray, List.set_cons_zero, List.set_cons_succ]
              refine wpParts_det (by rfl) (fun W hE hN => ?_) ?_
              · go_simp; refine ⟨Below.refl _ _, ?_⟩; rfl
              simp only [Act.put, List.setIfInBounds_toArray, List.set_cons_zero, List.set_cons_succ]
              refine wpParts_end fun W4 hE4 hG4 => ?_
              have hcW4 := fun b o h => hE4.cell (p := ⟨b, o, none⟩) h
              have hfW4 := fun b o h => hE4.frozen (p := ⟨b, o, none⟩) h
              have HB4 := Lib.hid (HB3.out.trans (hE4.mono HB3.out.size))
              have Z4 := Lib.hid (Z3.out.ext hE4)
              clear hE4 hG4 hcW4 hfW4
              go_wp2_with fail
              go_roundw
              case rel => exact ⟨i + 1, max m dd, k + t, by omega, by go_num, rfl, by go_num, by rw [HSM.out, ← HMI.out], by rw [HST.out, HKI.out]; omega, Z4.out, HBE.out.trans (HB4.out.mono HBE.out.size)⟩
              case measure => simp [intOf]; omega
      · have g1 : ¬ (i : Int) < (kl : Int) := by omega
        have hil : i = kl := by omega
        have em : m = (kids.map (depthV d)).foldr max 0 := by rw [HMI.out, List.take_of_length_le (by have := HLEN.out; omega)]
        have ek : k = M := by rw [HKI.out, ← HSUM.out, List.take_of_length_le (by have := HLEN.out; omega)]
        have hm8 : m ≤ 8 := by rw [em]; exact HMAX.out
        subst ek
        have hMM2 : (k : Int) ≤ 256 := by have := HM256.out; omega
        have eD : D = if kind < 5 then 0 else m + 1 := by
          rw [← HDD.out, show depthV (d + 1) X = if X.to.kind < 5 then 0 else (X.to.kids.map (depthV d)).foldr max 0 + 1 from rfl, HXK.out, HXI.out, em]
        have eK : kind < 5 → m = 0 := fun h5 => by
          have := alone_leaf (right_alone HR.out) (by rw [HXI.out]; exact h5)
          rw [HXK.out] at this
          rw [em, this]; rfl
        have eH : ¬ kind < 5 → kind = 5 ∨ kind = 6 := fun h5 => by
          have := alone_holds (right_alone HR.out) (by rw [HXI.out]; omega)
          rw [HXI.out] at this
          unfold holdsB at this
          simpa using this
        clear em
        by_cases h5 : kind < 5
        · have n5 : (kind == 5) = false := by rw [beq_eq_false_iff_ne]; omega
          have n6 : (kind == 6) = false := by rw [beq_eq_false_iff_ne]; omega
          have em := eK h5
          rw [if_pos h5] at eD
          subst em
          subst eD
          clear eK eH h5
          go_wp2_with fail
          refine (HD.out _ HBE.out).mono ?_; rintro e' w5 ⟨rfl, hb5⟩
          rw [show ifR true 0 = ((0 : Nat) : Int) from rfl]
          have B5 := Lib.hid (HBE.out.trans (hb5.mono HBE.out.size))
          have X5 := Lib.hid (HQ1.out.ext hb5)
          have q1 := X5.out.cells
          have l1 := X5.out.lt
          clear hb5
          go_wp2_with fail
          refine (HM.out _ B5.out).mono ?_; rintro e' w6 ⟨rfl, hb6⟩
          rw [show ifR true k = (k : Int) from rfl]
          have B6 := Lib.hid (B5.out.trans (hb6.mono B5.out.size))
          clear hb6
          go_wp2
          go_ret
          exact ⟨rfl, B6.out⟩
        · rw [if_neg h5] at eD
          subst eD
          have h56 := eH h5
          have u2 : IntKind.i64.wrap ((m : Int) + 1) = (m : Int) + 1 := IntWalk.i64_in _ (by omega)
          have hm9 : (m : Int) + 1 ≤ 8 := by have := HM8.out; omega
          clear eK eH h5
          rcases h56 with rfl | rfl
          · skip
            go_wp2_with fail
            refine (HD.out _ HBE.out).mono ?_; rintro e' w5 ⟨rfl, hb5⟩
            rw [show ifR true (m+1) = (((m+1) : Nat) : Int) from rfl]
            have B5 := Lib.hid (HBE.out.trans (hb5.mono HBE.out.size))
            have X5 := Lib.hid (HQ1.out.ext hb5)
            have q1 := X5.out.cells
            have l1 := X5.out.lt
            clear hb5
            go_wp2_with fail
            refine (HM.out _ B5.out).mono ?_; rintro e' w6 ⟨rfl, hb6⟩
            rw [show ifR true k = (k : Int) from rfl]
            have B6 := Lib.hid (B5.out.trans (hb6.mono B5.out.size))
            clear hb6
            go_wp2
            go_ret
            exact ⟨rfl, B6.out⟩
          · skip
            go_wp2_with fail
            refine (HD.out _ HBE.out).mono ?_; rintro e' w5 ⟨rfl, hb5⟩
            rw [show ifR true (m+1) = (((m+1) : Nat) : Int) from rfl]
            have B5 := Lib.hid (HBE.out.trans (hb5.mono HBE.out.size))
            have X5 := Lib.hid (HQ1.out.ext hb5)
            have q1 := X5.out.cells
            have l1 := X5.out.lt
            clear hb5
            go_wp2_with fail
            refine (HM.out _ B5.out).mono ?_; rintro e' w6 ⟨rfl, hb6⟩
            rw [show ifR true k = (k : Int) from rfl]
            have B6 := Lib.hid (B5.out.trans (hb6.mono B5.out.size))
            clear hb6
            go_wp2
            go_ret
            exact ⟨rfl, B6.out⟩
end Go.Proofs.YtmcmknndhppljaaDoor
