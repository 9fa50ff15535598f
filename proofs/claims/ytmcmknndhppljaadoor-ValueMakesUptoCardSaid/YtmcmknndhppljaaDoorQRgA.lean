/-
  Layer 4, the reference: Get, walked.
-/
import Derived.Test.YtmcmknndhppljaaDoorVbM
namespace Go.Dav
set_option linter.unusedVariables false
set_option linter.unusedSimpArgs false
open Go Go.RowKit
theorem getV_none {d : Nat} {x : ValN (d + 1)} {key : ByteArray} (h : ∀ (i : Nat) (k : ByteArray), x.to.keys[i]? = some k → (k.toList == key.toList) = false) : getV d x key = none := by
  unfold getV
  rw [if_neg]
  rintro ⟨_, _, hat⟩
  obtain ⟨k, hk, he⟩ := isAtS_some hat
  have := h _ k hk
  rw [he] at this
  simp at this
theorem getV_hit {d : Nat} {x : ValN (d + 1)} {key k : ByteArray} {i : Nat} {y : ValN d} (hr : rightV (d + 1) x = true) (hk : x.to.keys[i]? = some k) (he : (k.toList == key.toList) = true) (hy : x.to.kids[i]? = some y) : getV d x key = some y := by
  have ha := right_alone hr
  have hi := (List.getElem?_eq_some_iff.1 hk).1
  obtain ⟨h6, hl⟩ := alone_keys6 ha (by omega)
  have hat : isAtS x.to.keys i key = true := by unfold isAtS; rw [hk]; simpa using he
  have := keys_at (alone_keysTo ha) hat
  unfold getV
  rw [← this, if_pos ⟨h6, hr, hat⟩]
  exact hy
end Go.Dav
namespace Go.Proofs.YtmcmknndhppljaaDoor
set_option linter.unusedVariables false
set_option linter.unusedSimpArgs false
open Go.RowKit Go.Dav
attribute [local go_sem] Gives ite_val ite_val_true

set_option maxRecDepth 8000 in
set_option maxHeartbeats 8000000 in
theorem Tryd_rGet (d : Nat) (x : ValN (d + 1)) (v : Value) (key : ByteArray) (w0 w : World) (hv : ValAt w0 (d + 1) v x) (hw0 : Below w0.heap.size w0 w) (hr : rightV (d + 1) x = true) :
    Calls Tryd.prog 31 #[v, .string key] w fun e w' => (∃ u, e = .returned u ∧ ToldO d (getV d x key) u w0) ∧ Below w.heap.size w w' := by
  obtain ⟨ka, kl, kc, qa, ql, qc, h⟩ := hv
  obtain ⟨kind, n, s, kids, keys⟩ := x
  obtain ⟨rfl⟩ : v = .agg #[.int .i64 kind, .int .i64 n, .string s, .slice ka kl kc, .slice qa ql qc] := h.val
  obtain ⟨X, hX⟩ : ∃ X : ValN (d + 1), (⟨kind, n, s, kids, keys⟩ : ValF (ValN d)) = X := ⟨_, rfl⟩
  have hXk : X.to.kids = kids := by rw [← hX]; rfl
  have hXq : X.to.keys = keys := by rw [← hX]; rfl
  have hXi : X.to.kind = kind := by rw [← hX]; rfl
  have hr : rightV (d + 1) X = true := hX ▸ hr
  obtain ⟨g, hg⟩ : ∃ g, getV d (⟨kind, n, s, kids, keys⟩ : ValF (ValN d)) key = g := ⟨_, rfl⟩
  rw [hg]
  have hg : getV d X key = g := hX ▸ hg
  have HG := Lib.hid hg
  have HR := Lib.hid hr
  have HK := Lib.hid h.kidsAt
  have HQ := Lib.hid h.keys
  have HLEN := Lib.hid (show kids.length = kl from h.hlen)
  have HQL := Lib.hid (show keys.length = ql from h.keys.hlen)
  have HW0 := Lib.hid hw0
  have HXK := Lib.hid hXk
  have HXQ := Lib.hid hXq
  have HXI := Lib.hid hXi
  have hq47 : (ql : Int) ≤ 140737488355328 := by have := h.keys.hfew; omega
  have hql0 : keys.length = ql := h.keys.hlen
  have hkl0 : kids.length = kl := h.hlen
  have HKL := Lib.hid (show 0 < ql → kl = ql from fun h0 => by
    have := (alone_keys6 (right_alone hr) (by rw [hXq, hql0]; exact h0)).2
    rw [hXk, hXq, hkl0, hql0] at this
    exact this)
  obtain ⟨W0, hW0⟩ : ∃ W0, (w.alloc (.cells #[.int .i64 kind, .int .i64 n, .string s, .slice ka kl kc, .slice qa ql qc] 39)).alloc (.cells #[.int .i64 0, .int .i64 0, .string ⟨#[]⟩, .slice none 0 0, .slice none 0 0] 39) = W0 := ⟨_, rfl⟩
  have bel0 : Below w.heap.size w W0 := by rw [← hW0]; exact (by repeat (first | (with_reducible exact Below.refl _ _) | (with_reducible exact Below.refl _ _) | (with_reducible refine Below.setCell ?_ (by first | omega | (simp; done) | (simp; omega)) _) | (with_reducible refine Below.alloc ?_ (by first | omega | (simp; done) | (simp; omega)) _) | (with_reducible refine Below.drew ?_) | (with_reducible refine below_drewN ?_ _)))
  have hb1 : Blk W0 w.heap.size [.int .i64 kind, .int .i64 n, .string s, .slice ka kl kc, .slice qa ql qc] 39 := by rw [← hW0]; exact (Blk.new _ _ _).alloc _
  have hb2 : Blk W0 (w.heap.size + 1) [.int .i64 0, .int .i64 0, .string ⟨#[]⟩, .slice none 0 0, .slice none 0 0] 39 := by rw [← hW0]; exact Blk.new' _ _ _ (by simp)
  have BEL := Lib.hid bel0
  have HB1 := Lib.hid hb1
  have HB2 := Lib.hid hb2
  subst hW0
  clear hr hg hX hXk hXq hXi hw0 h bel0 hb1 hb2 hql0 hkl0
  by_cases h6 : kind = 6
  · subst h6
    go_enter Tryd.func31, Tryd.ntmps31
    go_wp2_with fail
    go_loopw [6] (fun ix wr => ∃ i : Nat, i ≤ ql ∧ ix = .int .i64 (i : Int) ∧ (∀ (j : Nat) (k : ByteArray), j < i → keys[j]? = some k → (k.toList == key.toList) = false) ∧ Blk wr w.heap.size [.int .i64 6, .int .i64 n, .string s, .slice ka kl kc, .slice qa ql qc] 39 ∧ Blk wr (w.heap.size + 1) [.int .i64 0, .int .i64 0, .string ⟨#[]⟩, .slice none 0 0, .slice none 0 0] 39 ∧ Below w.heap.size w wr) (fun ix _ => ql - (intOf ix).toNat)
    case atStart => exact ⟨0, Nat.zero_le _, by go_num, fun j k hj => by omega, HB1.out, HB2.out, BEL.out⟩
    case round =>
      obtain ⟨i, hi, rfl, hno, hq1, hq2, hbel⟩ := hrel
      have q1 := hq1.cells
      have l1 := hq1.lt
      have q2 := hq2.cells
      have m2 := hq2.marks
      have l2 := hq2.lt
      have HQ1 := Lib.hid hq1
      have HQ2 := Lib.hid hq2
      have HBE := Lib.hid hbel
      have HNO := Lib.hid hno
      clear hq1 hq2 hbel hno
      by_cases hlt : i < ql
      · have g1 : (i : Int) < (ql : Int) := by omega
        have hkl : kl = ql := HKL.out (by omega)
        have g2 : (i : Int) < (kl : Int) := by omega
        have hbb := HW0.out.trans (HBE.out.mono HW0.out.size)
        obtain ⟨k, hk⟩ : ∃ k, keys[i]? = some k := ⟨_, List.getElem?_eq_getElem (by have := HQL.out; omega)⟩
        obtain ⟨y, hy⟩ : ∃ y, kids[i]? = some y := ⟨_, List.getElem?_eq_getElem (by have := HLEN.out; omega)⟩
        obtain ⟨bq, oq, rfl, hbq, hcell⟩ := (HQ.out.ext hbb).hat i k hk
        obtain ⟨eq, heq⟩ : ∃ b, (k.toList == key.toList) = b := ⟨_, rfl⟩
        have HEQ := Lib.hid heq
        have HKK := Lib.hid hk
        have HYY := Lib.hid hy
        cases eq with
        | true =>
          have hgs : g = some y := by rw [← HG.out]; exact getV_hit HR.out (by rw [HXQ.out]; exact hk) heq (by rw [HXK.out]; exact hy)
          subst hgs
          obtain ⟨b, o, k', n', s', a1, l1', c1, a2, l2', c2, rfl, hb, y0, y1, y2, y3, y4, hval⟩ := HK.out.get HYY.out
          have x0 := (hbb.cell (p := ⟨b, o + i * 5, none⟩) hb).trans y0
          have x1 := (hbb.cell (p := ⟨b, o + i * 5 + 1, none⟩) hb).trans y1
          have x2 := (hbb.cell (p := ⟨b, o + i * 5 + 2, none⟩) hb).trans y2
          have x3 := (hbb.cell (p := ⟨b, o + i * 5 + 3, none⟩) hb).trans y3
          have x4 := (hbb.cell (p := ⟨b, o + i * 5 + 4, none⟩) hb).trans y4
          have HVAL := Lib.hid hval
          clear hval hy hk hbb y0 y1 y2 y3 y4 hkl
          go_wp2
          have c4 := (HQ2.out.fiveV (.int .i64 k') (.int .i64 n') (.string s') (.slice a1 l1' c1) (.slice a2 l2' c2)).cells
          refine bodyPost_ret (v := .tuple #[.agg #[.int .i64 k', .int .i64 n', .string s', .slice a1 l1' c1, .slice a2 l2' c2], .bool true]) (by simp [results, Tryd.results31, go_sem, c4]) rfl ⟨⟨_, rfl, _, rfl, HVAL.out⟩, ?_⟩
          exact below_only HBE.out (Only.fiveV _ _ _ _ _ _ _) HBE.out.size (by omega)
        | false =>
          have hi9 : (i : Int) + 1 ≤ 140737488355328 := by omega
          clear hy hk hbb hkl
          go_wp2
          go_roundw
          case rel =>
            refine ⟨i + 1, by omega, by go_num, fun j k2 hj hk2 => ?_, HQ1.out, HQ2.out, HBE.out⟩
            by_cases e : j = i
            · subst e
              rw [HKK.out] at hk2
              cases hk2
              exact HEQ.out
            · exact HNO.out j k2 (by omega) hk2
          case measure => simp [intOf]; omega
      · have g1 : ¬ (i : Int) < (ql : Int) := by omega
        have hgn : g = none := by
          rw [← HG.out]
          exact getV_none fun j k hj => HNO.out j k (by rw [HXQ.out] at hj; have := (List.getElem?_eq_some_iff.1 hj).1; have := HQL.out; omega) (by rw [← HXQ.out]; exact hj)
        subst hgn
        go_wp2
        have c4 := (HQ2.out.fiveV (.int .i64 0) (.int .i64 0) (.string ⟨#[]⟩) (.slice none 0 0) (.slice none 0 0)).cells
        refine bodyPost_ret (v := .tuple #[.agg zeroL.toArray, .bool false]) (by simp [results, Tryd.results31, go_sem, c4, zeroL]) rfl ⟨⟨_, rfl, rfl⟩, ?_⟩
        exact below_only HBE.out (Only.fiveV _ _ _ _ _ _ _) HBE.out.size (by omega)
  · have d1 : (kind == 6) = false := by rw [beq_eq_false_iff_ne]; exact h6
    have hgn : g = none := by
      rw [← HG.out]
      unfold getV
      rw [if_neg (fun hh => h6 (by rw [← HXI.out]; exact hh.1))]
    subst hgn
    go_enter Tryd.func31, Tryd.ntmps31
    go_wp2_with fail
    go_loopw [6] (fun ix wr => ix = .int .i64 0 ∧ Blk wr w.heap.size [.int .i64 kind, .int .i64 n, .string s, .slice ka kl kc, .slice qa ql qc] 39 ∧ Blk wr (w.heap.size + 1) [.int .i64 0, .int .i64 0, .string ⟨#[]⟩, .slice none 0 0, .slice none 0 0] 39 ∧ Below w.heap.size w wr) (fun _ _ => 0)
    case atStart => exact ⟨rfl, HB1.out, HB2.out, BEL.out⟩
    case round =>
      obtain ⟨rfl, hq1, hq2, hbel⟩ := hrel
      have q1 := hq1.cells
      have l1 := hq1.lt
      have q2 := hq2.cells
      have m2 := hq2.marks
      have l2 := hq2.lt
      have HQ2 := Lib.hid hq2
      have HBE := Lib.hid hbel
      clear hq1 hq2 hbel
      go_wp2
      have c4 := (HQ2.out.fiveV (.int .i64 0) (.int .i64 0) (.string ⟨#[]⟩) (.slice none 0 0) (.slice none 0 0)).cells
      refine bodyPost_ret (v := .tuple #[.agg zeroL.toArray, .bool false]) (by simp [results, Tryd.results31, go_sem, c4, zeroL]) rfl ⟨⟨_, rfl, rfl⟩, ?_⟩
      exact below_only HBE.out (Only.fiveV _ _ _ _ _ _ _) HBE.out.size (by omega)
end Go.Proofs.YtmcmknndhppljaaDoor
