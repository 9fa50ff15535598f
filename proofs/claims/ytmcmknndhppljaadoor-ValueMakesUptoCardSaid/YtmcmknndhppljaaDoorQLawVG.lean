/-
  The law ValueMakes, walked.
-/
import Derived.Test.YtmcmknndhppljaaDoorQMkD
import Derived.Test.YtmcmknndhppljaaDoorQAppF
namespace Go.Proofs.YtmcmknndhppljaaDoor
set_option linter.unusedVariables false
set_option linter.unusedSimpArgs false
open Go.RowKit Go.Dav
attribute [local go_sem] Gives ite_val ite_val_true

set_option maxRecDepth 8000 in
set_option maxHeartbeats 16000000 in
theorem Tryd_ValueMakes (d : Nat) (f : PairE → ValN d) (nn : Int) (hnn : I64' nn) (s : ByteArray) (hs : s.size ≤ 17592186044416) (a : Option Addr) (n c : Nat) (l : List PairE) (w : World) (hl : l.length = n) (hat : FlatAt w a (flatE l)) (hnil : a = none → c = 0) (hnc : n ≤ c) (hcm : c ≤ maxLen) (hn : n ≤ 1048576) (hf : ∀ e ∈ l, ValAt w d e.agg (f e)) (hks : ∀ e ∈ l, e.key.size ≤ 17592186044416) (hN : GlobAt w 0 [.int .i64 0, .int .i64 0] 143) :
    Calls Tryd.prog 5 #[.int .i64 nn, .string s, .slice a n c] w fun e' w' => e' = .returned (.bool true) ∧ Below w.heap.size w w' := by
  have hg : ∀ W, Below w.heap.size w W → GlobAt W 0 [.int .i64 0, .int .i64 0] 143 := fun W hb => hN.ext hb
  obtain ⟨m, hm⟩ : ∃ m, min n 300 = m := ⟨_, rfl⟩
  obtain ⟨L, hL⟩ : ∃ L, l.take m = L := ⟨_, rfl⟩
  have hLl : L.length = m := by rw [← hL, List.length_take]; omega
  have hLf : FlatAt w a (flatE L) := fun j u hu => hat j u (by
    have hj := (List.getElem?_eq_some_iff.1 hu).1
    have e : flatE l = flatE L ++ flatE (l.drop m) := by rw [← hL]; unfold flatE; rw [← List.flatMap_append, List.take_append_drop]
    rw [e, List.getElem?_append_left hj]; exact hu)
  have hfL : ∀ e ∈ L, ValAt w d e.agg (f e) := fun e he => hf e (List.mem_of_mem_take (by rw [← hL] at he; exact he))
  have hkL : ∀ e ∈ L, e.key.size ≤ 17592186044416 := fun e he => hks e (List.mem_of_mem_take (by rw [← hL] at he; exact he))
  have e1 : min (n : Int) 300 = (m : Int) := by omega
  have p1 : (m : Int) ≤ 300 := by omega
  have p2 : m ≤ 300 := by omega
  have p3 : m ≤ c := by omega
  have hone : ∀ u ∈ flatE L, u.oneCell' = true := fun u hu => by
    obtain ⟨e, _, hu⟩ := List.mem_flatMap.1 hu
    simp [PairE.cells] at hu
    rcases hu with rfl | rfl | rfl | rfl | rfl | rfl <;> rfl
  obtain ⟨E, hE⟩ : ∃ E, objE d f L = E := ⟨_, rfl⟩
  obtain ⟨X, hX⟩ : ∃ X, objX d f L = X := ⟨_, rfl⟩
  have HOB := Lib.hid (fun W (b : Option Addr) (cc : Nat) (hb : Below w.heap.size w W) (h1 : FlatAt W b (flatE L)) (h2 : b = none → cc = 0) (h3 : m ≤ cc) => by
    have q := Tryd_objOut d f b m cc L W hLl h1 h2 h3 p2 (fun e he => ValAt.ext hb d (hfL e he)) hkL (hg W hb)
    unfold TrydObjOut at q
    rw [hE, hX] at q
    exact q)
  have HRO := Lib.hid (fun W (b : Option Addr) (cc : Nat) (hb : Below w.heap.size w W) (h1 : FlatAt W b (flatE L)) => by
    have q := Tryd_robjOut d f b m cc L W hLl h1 p2 (fun e he => ValAt.ext hb d (hfL e he)) hkL
    unfold TrydObjOut at q
    rw [hE, hX] at q
    exact q)
  have HE3 := Lib.hid (show E = 0 ∨ E = 140 ∨ E = 141 from hE ▸ objE_three d f L)
  have HRX := Lib.hid (show E = 0 → rightV (d + 1) X = true from fun h => by
    obtain ⟨_, _, _, h3, _⟩ := objE_right (hE.trans h)
    rwa [hX] at h3)
  obtain ⟨Y, hY⟩ : ∃ Y, listOf d (L.map f) = Y := ⟨_, rfl⟩
  obtain ⟨r3, hr3⟩ : ∃ r3, rightV (d + 1) Y = r3 := ⟨_, rfl⟩
  obtain ⟨tv, htv⟩ : ∃ tv, validB s.data.toList = tv := ⟨_, rfl⟩
  have HTX := Lib.hid (fun W (hb : Below w.heap.size w W) => by have q := Tryd_vText d s W hs (hg W hb); rw [text_right, htv] at q; exact q)
  have HRV := Lib.hid (fun W => by have q := Tryd_rValid s W hs; rw [htv] at q; exact q)
  have HST := Lib.hid (fun (h : tv = true) W => Tryd_sameText s hs (htv.trans h) W)
  have HZZ := Lib.hid (fun W => Tryd_zeroZ W)
  have HLF := Lib.hid (fun W (hb : Below w.heap.size w W) => hLf.ext hb)
  have HLL := Lib.hid hLl
  have HG := Lib.hid hg
  have HFL := Lib.hid hfL
  have HNIL := Lib.hid hnil
  have HFO := Lib.hid hone
  have HFN := Lib.hid (show (flatE L).length = m * 6 from by rw [flatE_len, hLl])
  have HW := Lib.hid (Tryd_wakes04 w hN)
  have HNN := Lib.hid hnn
  have b1 : ∀ w1 : World, Below w.heap.size w w1 → Below w.heap.size w (w1.alloc (.cells #[] 56)) := fun w1 h => by have s := h.size; exact (by repeat (first | (with_reducible exact Below.refl _ _) | (with_reducible exact Below.refl _ _) | (with_reducible refine Below.setCell ?_ (by first | omega | (simp; done) | (simp; omega)) _) | (with_reducible refine Below.alloc ?_ (by first | omega | (simp; done) | (simp; omega)) _) | (with_reducible refine Below.drew ?_) | (with_reducible refine below_drewN ?_ _) | (with_reducible refine Below.trans ?_ (h.mono (by first | omega | (simp; done) | (simp; omega))))))
  have HB1 := Lib.hid b1
  obtain ⟨i0, hi0, hz0, hz1, hz2⟩ := info_parts Tryd_infoPair
  obtain ⟨i1, hj0, hy0, hy1, hy2⟩ := info_parts Tryd_infoValue
  have HI1 := Lib.hid (And.intro hj0 (And.intro hy0 (And.intro hy1 hy2)))
  have HY := Lib.hid hY
  have HR3 := Lib.hid hr3
  clear hE hX hg hN hat hl hf hks hfL hkL hLf hL hm hLl hcm hnc hnil hn hone b1 htv hY hr3 hs hnn hj0 hy0 hy1 hy2
  go_enter Tryd.func5, Tryd.ntmps5
  go_wp2_with fail
  refine HW.out.mono ?_; rintro e' w1 ⟨rfl, hb1⟩
  have B1 := Lib.hid hb1
  clear hb1 HW
  go_wp2_with (at_builtin; refine wpList_append_nilF rfl (.tmp 22) (.tmp 27) 48 rfl Tryd.underlying48 hi0 hz0 hz1 hz2 rfl (by decide) w1.heap.size w1.heap.size rfl (own_nil (Nat.le_refl _)) a m c (flatE L) (by first | rfl | (rw [← e1]; rfl)) (HLF.out _ (HB1.out _ B1.out)) HFN.out HFO.out HNIL.out (by omega) (by unfold maxLen; omega) (by omega) (by simp) ?_; intro v2 w2 ho2 hgr2; obtain ⟨kk, kc, hv2⟩ := own_sliceW ho2; subst hv2; have HO2 := Lib.hid ho2; have B2 := Lib.hid (below_own (B := w.heap.size) (HB1.out _ B1.out) (by have := B1.out.size; simp; omega) (own_nil (W := w1) (e := 56) (size := 6) (Nat.le_refl _)) (by have := B1.out.size; omega) hgr2); clear ho2 hgr2)
  obtain ⟨f1, f2, f3, f4⟩ := own_flat HO2.out
  have HF2 := Lib.hid f4
  have HN2 := Lib.hid f3
  clear f4 f3
  refine (HTX.out w2 B2.out).mono ?_; rintro e' w3 ⟨rfl, hb3⟩
  have B3 := Lib.hid (B2.out.trans (hb3.mono B2.out.size))
  have HF3 := Lib.hid (HF2.out.ext hb3)
  clear hb3 HTX HF2
  cases tv with
  | true =>
    rw [show ∀ v, wholeV true v = .tuple #[v, .int .i64 0] from fun v => rfl]
    have b4 : Below w.heap.size w (w3.alloc (.cells #[.int .i64 4, .int .i64 0, .string s, .slice none 0 0, .slice none 0 0] 39)) := by have h := B3.out; have s := h.size; exact (by repeat (first | (with_reducible exact Below.refl _ _) | (with_reducible exact Below.refl _ _) | (with_reducible refine Below.setCell ?_ (by first | omega | (simp; done) | (simp; omega)) _) | (with_reducible refine Below.alloc ?_ (by first | omega | (simp; done) | (simp; omega)) _) | (with_reducible refine Below.drew ?_) | (with_reducible refine below_drewN ?_ _) | (with_reducible refine Below.trans ?_ (h.mono (by first | omega | (simp; done) | (simp; omega))))))
    have B4 := Lib.hid b4
    have Q4 := Lib.hid (Blk.new w3 [.int .i64 4, .int .i64 0, .string s, .slice none 0 0, .slice none 0 0] 39)
    have HF4 := Lib.hid (HF3.out.ext (show Below w3.heap.size w3 (w3.alloc (.cells #[.int .i64 4, .int .i64 0, .string s, .slice none 0 0, .slice none 0 0] 39)) from (by repeat (first | (with_reducible exact Below.refl _ _) | (with_reducible exact Below.refl _ _) | (with_reducible refine Below.setCell ?_ (by first | omega | (simp; done) | (simp; omega)) _) | (with_reducible refine Below.alloc ?_ (by first | omega | (simp; done) | (simp; omega)) _) | (with_reducible refine Below.drew ?_) | (with_reducible refine below_drewN ?_ _)))))
    clear b4
    go_wp2_with fail
    refine (HRV.out _).mono ?_; rintro e' w5 ⟨rfl, hb5⟩
    have B5 := Lib.hid (B4.out.trans (hb5.mono B4.out.size))
    have hq5 := Q4.out.ext hb5
    have q5 := hq5.cells
    have l5 := hq5.lt
    have HF5 := Lib.hid (HF4.out.ext hb5)
    clear hb5 B4 Q4 HF4 B3 HF3
    go_wp2_with fail
    refine (HST.out trivial _).mono ?_; rintro e' w6 ⟨rfl, hb6⟩
    have B6 := Lib.hid (B5.out.trans (hb6.mono B5.out.size))
    have HF6 := Lib.hid (HF5.out.ext hb6)
    clear hb6 B5 HF5 hq5 q5 l5
    have hkn : kk = none → kc = 0 := HN2.out
    have b7 : Below w.heap.size w (w6.alloc (.cells #[] 56)) := HB1.out _ B6.out
    have B7 := Lib.hid b7
    have HF7 := Lib.hid (HF6.out.ext (show Below w6.heap.size w6 (w6.alloc (.cells #[] 56)) from (by repeat (first | (with_reducible exact Below.refl _ _) | (with_reducible exact Below.refl _ _) | (with_reducible refine Below.setCell ?_ (by first | omega | (simp; done) | (simp; omega)) _) | (with_reducible refine Below.alloc ?_ (by first | omega | (simp; done) | (simp; omega)) _) | (with_reducible refine Below.drew ?_) | (with_reducible refine below_drewN ?_ _)))))
    have HKN := Lib.hid hkn
    clear b7 hkn
    go_wp2_with (at_builtin; refine wpList_append_nilF rfl (.tmp 64) (.tmp 65) 48 rfl Tryd.underlying48 hi0 hz0 hz1 hz2 rfl (by decide) w6.heap.size w6.heap.size rfl (own_nil (Nat.le_refl _)) kk m kc (flatE L) rfl HF7.out HFN.out HFO.out HKN.out f1 (by unfold maxLen; omega) (by omega) (by simp) ?_; intro v8 w8 ho8 hgr8; obtain ⟨k8, c8, hv8⟩ := own_sliceW ho8; subst hv8; have HO8 := Lib.hid ho8; have HG8 := Lib.hid hgr8; clear ho8 hgr8)
    have hb8 : Below w6.heap.size w6 w8 := below_own (show Below w6.heap.size w6 (w6.alloc (.cells #[] 56)) from (by repeat (first | (with_reducible exact Below.refl _ _) | (with_reducible exact Below.refl _ _) | (with_reducible refine Below.setCell ?_ (by first | omega | (simp; done) | (simp; omega)) _) | (with_reducible refine Below.alloc ?_ (by first | omega | (simp; done) | (simp; omega)) _) | (with_reducible refine Below.drew ?_) | (with_reducible refine below_drewN ?_ _)))) (by simp) (own_nil (W := w6) (e := 56) (size := 6) (Nat.le_refl _)) (Nat.le_refl _) HG8.out
    have B8 := Lib.hid (B6.out.trans (hb8.mono B6.out.size))
    have HF8 := Lib.hid (HF6.out.ext hb8)
    obtain ⟨g1, g2, g3, g4⟩ := own_flat HO8.out
    clear hb8 HF6 HF7 B7 HG8 HO8
    refine (HOB.out _ k8 c8 B8.out g4 g3 g1).mono ?_; rintro e' w9 ⟨⟨k1, n1, s1, a1, l1, c1, a2, l2, c2, rfl, hv1, hz1'⟩, hb9⟩
    have B9 := Lib.hid (B8.out.trans (hb9.mono B8.out.size))
    have HF9 := Lib.hid (HF8.out.ext hb9)
    have HV1 := Lib.hid hv1
    have HZ1 := Lib.hid hz1'
    have b10 : Below w.heap.size w (w9.alloc (.cells #[.int .i64 k1, .int .i64 n1, .string s1, .slice a1 l1 c1, .slice a2 l2 c2] 39)) := by have h := B9.out; have s := h.size; exact (by repeat (first | (with_reducible exact Below.refl _ _) | (with_reducible exact Below.refl _ _) | (with_reducible refine Below.setCell ?_ (by first | omega | (simp; done) | (simp; omega)) _) | (with_reducible refine Below.alloc ?_ (by first | omega | (simp; done) | (simp; omega)) _) | (with_reducible refine Below.drew ?_) | (with_reducible refine below_drewN ?_ _) | (with_reducible refine Below.trans ?_ (h.mono (by first | omega | (simp; done) | (simp; omega))))))
    have B10 := Lib.hid b10
    have HF10 := Lib.hid (HF9.out.ext (show Below w9.heap.size w9 (w9.alloc (.cells #[.int .i64 k1, .int .i64 n1, .string s1, .slice a1 l1 c1, .slice a2 l2 c2] 39)) from (by repeat (first | (with_reducible exact Below.refl _ _) | (with_reducible exact Below.refl _ _) | (with_reducible refine Below.setCell ?_ (by first | omega | (simp; done) | (simp; omega)) _) | (with_reducible refine Below.alloc ?_ (by first | omega | (simp; done) | (simp; omega)) _) | (with_reducible refine Below.drew ?_) | (with_reducible refine below_drewN ?_ _)))))
    have P10 := Lib.hid (Blk.new w9 [.int .i64 k1, .int .i64 n1, .string s1, .slice a1 l1 c1, .slice a2 l2 c2] 39)
    have D10 := Lib.hid (show Below w9.heap.size w9 (w9.alloc (.cells #[.int .i64 k1, .int .i64 n1, .string s1, .slice a1 l1 c1, .slice a2 l2 c2] 39)) from (by repeat (first | (with_reducible exact Below.refl _ _) | (with_reducible exact Below.refl _ _) | (with_reducible refine Below.setCell ?_ (by first | omega | (simp; done) | (simp; omega)) _) | (with_reducible refine Below.alloc ?_ (by first | omega | (simp; done) | (simp; omega)) _) | (with_reducible refine Below.drew ?_) | (with_reducible refine below_drewN ?_ _))))
    clear hv1 hz1' hb9 b10 g1 g2 g3 g4 HF8 B8 HOB
    go_wp2_with fail
    refine (HRO.out _ kk kc B10.out HF10.out).mono ?_; rintro e' w11 ⟨⟨k2, n2, s2, b1, m1, d1, b2, m2, d2, rfl, hv2, hz2'⟩, hb11⟩
    have B11 := Lib.hid (B10.out.trans (hb11.mono B10.out.size))
    have D11 := Lib.hid (D10.out.trans (hb11.mono D10.out.size))
    have HF11 := Lib.hid (HF10.out.ext hb11)
    have hq10 := P10.out.ext hb11
    have HV2 := Lib.hid hv2
    have HZ2 := Lib.hid hz2'
    have b12 : Below w.heap.size w (w11.alloc (.cells #[.int .i64 k2, .int .i64 n2, .string s2, .slice b1 m1 d1, .slice b2 m2 d2] 39)) := by have h := B11.out; have s := h.size; exact (by repeat (first | (with_reducible exact Below.refl _ _) | (with_reducible exact Below.refl _ _) | (with_reducible refine Below.setCell ?_ (by first | omega | (simp; done) | (simp; omega)) _) | (with_reducible refine Below.alloc ?_ (by first | omega | (simp; done) | (simp; omega)) _) | (with_reducible refine Below.drew ?_) | (with_reducible refine below_drewN ?_ _) | (with_reducible refine Below.trans ?_ (h.mono (by first | omega | (simp; done) | (simp; omega))))))
    have d12 : Below w11.heap.size w11 (w11.alloc (.cells #[.int .i64 k2, .int .i64 n2, .string s2, .slice b1 m1 d1, .slice b2 m2 d2] 39)) := (by repeat (first | (with_reducible exact Below.refl _ _) | (with_reducible exact Below.refl _ _) | (with_reducible refine Below.setCell ?_ (by first | omega | (simp; done) | (simp; omega)) _) | (with_reducible refine Below.alloc ?_ (by first | omega | (simp; done) | (simp; omega)) _) | (with_reducible refine Below.drew ?_) | (with_reducible refine below_drewN ?_ _)))
    have hq10a := hq10.ext d12
    have q10 := hq10.cells
    have l10 := hq10.lt
    obtain ⟨ez, hez⟩ : ∃ ez, (E == 0) = ez := ⟨_, rfl⟩
    have HTOLD := Lib.hid (show Calls Tryd.prog 25 #[.agg #[.int .i64 k1, .int .i64 n1, .string s1, .slice a1 l1 c1, .slice a2 l2 c2], .bool ez, .agg #[.int .i64 k2, .int .i64 n2, .string s2, .slice b1 m1 d1, .slice b2 m2 d2], .bool ez] (w11.alloc (.cells #[.int .i64 k2, .int .i64 n2, .string s2, .slice b1 m1 d1, .slice b2 m2 d2] 39)) fun e w' => e = .returned (.bool true) ∧ Below (w11.alloc (.cells #[.int .i64 k2, .int .i64 n2, .string s2, .slice b1 m1 d1, .slice b2 m2 d2] 39)).heap.size (w11.alloc (.cells #[.int .i64 k2, .int .i64 n2, .string s2, .slice b1 m1 d1, .slice b2 m2 d2] 39)) w' from by
      cases ez with
      | true =>
        have h0 : E = 0 := by simpa using hez
        exact Tryd_told (some ⟨d + 1, X⟩) true rfl _ k2 n2 s2 b1 b2 m1 d1 m2 d2 w11 _ (ValAt.ext D11.out _ (HV1.out h0)) (fun z hz => by cases hz; exact HV2.out h0) (fun z hz => by cases hz; exact HRX.out h0) d12
      | false =>
        have h0 : E ≠ 0 := by simpa using hez
        exact Tryd_told none false rfl _ k2 n2 s2 b1 b2 m1 d1 m2 d2 w11 _ (HZ1.out h0) (fun z hz => by cases hz) (fun z hz => by cases hz) d12)
    have B12 := Lib.hid b12
    have HF12 := Lib.hid (HF11.out.ext d12)
    clear hv2 hz2' hb11 b12 d12 hq10 hq10a HF10 HF11 B10 D10 D11 HRO
    go_wp2_with fail
    refine HTOLD.out.mono ?_; rintro e' w13 ⟨rfl, hb13⟩
    have B13 := Lib.hid (B12.out.trans (hb13.mono B12.out.size))
    have HF13 := Lib.hid (HF12.out.ext hb13)
    clear hb13 HTOLD HF12 B12 q10 l10 hez
    go_wp2_with fail
    go_loopw [91] (fun ix wr => ∃ (j : Nat) (ka : Option Addr) (kc' : Nat), j ≤ m ∧ ix = .int .i64 (j : Int) ∧ wr.ownsRow (w13.heap.size + 1) 39 5 (.slice ka j kc') j (flatW (L.take j)) ∧ Blk wr w13.heap.size [.int .i64 5, .int .i64 0, .string ⟨#[]⟩, .slice ka j kc', .slice none 0 0] 39 ∧ Below w13.heap.size w13 wr) (fun ix _ => m - (intOf ix).toNat)
    case atStart => exact ⟨0, none, 0, Nat.zero_le _, by go_num, World.ownsRow_nil _ _ _ _, Blk.new _ [.int .i64 5, .int .i64 0, .string ⟨#[]⟩, .slice none 0 0, .slice none 0 0] _, (by repeat (first | (with_reducible exact Below.refl _ _) | (with_reducible exact Below.refl _ _) | (with_reducible refine Below.setCell ?_ (by first | omega | (simp; done) | (simp; omega)) _) | (with_reducible refine Below.alloc ?_ (by first | omega | (simp; done) | (simp; omega)) _) | (with_reducible refine Below.drew ?_) | (with_reducible refine below_drewN ?_ _)))⟩
    case round =>
      obtain ⟨j, ka, kc', hj, rfl, hown, hq, hbel⟩ := hrel
      have HO := Lib.hid hown
      have HP := Lib.hid hq
      have HC := Lib.hid hbel
      have q13 := hq.cells
      have l13 := hq.lt
      clear hown hbel
      by_cases hlt : j < m
      · have u1 : (j : Int) < (m : Int) := by omega
        obtain ⟨p, hp⟩ : ∃ p, L[j]? = some p := ⟨_, List.getElem?_eq_getElem (by have := HLL.out; omega)⟩
        obtain ⟨b, o, rfl, hbw, x0, x1, x2, x3, x4, x5⟩ := FlatAt.pair HF13.out HC.out hp
        have HPP := Lib.hid hp
        have hq2 := ((hq.alloc (.cells #[.string p.key, .int .i64 p.k, .int .i64 p.n, .string p.s, .slice p.a1 p.l1 p.c1, .slice p.a2 p.l2 p.c2] 56)).alloc (.cells #[.int .i64 p.k, .int .i64 p.n, .string p.s, .slice p.a1 p.l1 p.c1, .slice p.a2 p.l2 p.c2] 39))
        have HQ2 := Lib.hid hq2
        clear hp hq hq2
        go_wp2_with (at_builtin; refine wpList_append_ownF rfl (.tmp 96) (.tmp 99) 36 rfl Tryd.underlying36 HI1.out.1 HI1.out.2.1 HI1.out.2.2.1 HI1.out.2.2.2 rfl (by decide) (w13.heap.size + 1) j (.slice ka j kc') (flatW (L.take j)) rfl (ownsRow_below HO.out (by exact (by repeat (first | (with_reducible exact Below.refl _ _) | (with_reducible exact Below.refl _ _) | (with_reducible refine Below.setCell ?_ (by first | omega | (simp; done) | (simp; omega)) _) | (with_reducible refine Below.alloc ?_ (by first | omega | (simp; done) | (simp; omega)) _) | (with_reducible refine Below.drew ?_) | (with_reducible refine below_drewN ?_ _))))) (some ⟨wr.heap.size + 1, 0, none⟩) 1 1 p.vcells (by rfl) (fun j u hu => ⟨wr.heap.size + 1, 0, rfl, by simp, by rw [Nat.zero_add]; exact (Blk.new' _ p.vcells 39 (by simp)).cell j hu⟩) rfl (by simp [PairE.vcells, Value.oneCell']) (fun e => by cases e) (Nat.le_refl _) (by unfold maxLen; omega) (by omega) (by have := HC.out.size; have := HP.out.lt; simp; omega) ?_; intro v15 w15 ho15 hgr15; obtain ⟨k15, c15, hv15⟩ := own_sliceW ho15; subst hv15; have HO15 := Lib.hid ho15; have HG15 := Lib.hid hgr15; have h15 : Below (w13.heap.size + 1) wr w15 := below_own (W0 := wr) (B := w13.heap.size + 1) (by have := HP.out.lt; exact (by repeat (first | (with_reducible exact Below.refl _ _) | (with_reducible exact Below.refl _ _) | (with_reducible refine Below.setCell ?_ (by first | omega | (simp; done) | (simp; omega)) _) | (with_reducible refine Below.alloc ?_ (by first | omega | (simp; done) | (simp; omega)) _) | (with_reducible refine Below.drew ?_) | (with_reducible refine below_drewN ?_ _)))) (by have := HP.out.lt; simp; omega) (ownsRow_below HO.out (by exact (by repeat (first | (with_reducible exact Below.refl _ _) | (with_reducible exact Below.refl _ _) | (with_reducible refine Below.setCell ?_ (by first | omega | (simp; done) | (simp; omega)) _) | (with_reducible refine Below.alloc ?_ (by first | omega | (simp; done) | (simp; omega)) _) | (with_reducible refine Below.drew ?_) | (with_reducible refine below_drewN ?_ _))))) (Nat.le_refl _) HG15.out; have H15 := Lib.hid h15; have q15 := (HP.out.below h15 (by omega)).cells; have m15 := (HP.out.below h15 (by omega)).marks; have l15 := (HP.out.below h15 (by omega)).lt; clear ho15 hgr15 h15 q13 l13)
        go_roundw
        case rel =>
          have hpp : flatW (L.take (j + 1)) = flatW (L.take j) ++ p.vcells := by unfold flatW; rw [List.take_add_one, HPP.out, List.flatMap_append]; simp
          have ho6 := (OnlyS.refl (· = w13.heap.size) w15).set w13.heap.size 3 (.slice k15 (j + 1) c15) rfl
          refine ⟨j + 1, k15, c15, by omega, by go_num, ?_, (HP.out.below H15.out (by omega)).set 3 _, (HC.out.trans (H15.out.mono (by omega))).trans (ho6.below (HC.out.trans (H15.out.mono (by omega))).size (fun b hb => by omega))⟩
          rw [hpp]
          exact ownsRow_onlyS HO15.out ho6 (fun b hb e => by have := own_high HO15.out hb; omega)
        case measure => simp [intOf]; omega
      · obtain rfl : j = m := by omega
        have u1 : ¬ (j : Int) < (j : Int) := by omega
        have hown := HO.out
        rw [List.take_of_length_le (by rw [HLL.out]; exact Nat.le_refl _)] at hown
        obtain ⟨z1, z2, z3, z4⟩ := own_flat hown
        have HZ3 := Lib.hid z3
        have HZ4 := Lib.hid z4
        have HZ2 := Lib.hid z2
        have b20 : Below wr.heap.size wr (wr.alloc (.cells #[] 39)) := (by repeat (first | (with_reducible exact Below.refl _ _) | (with_reducible exact Below.refl _ _) | (with_reducible refine Below.setCell ?_ (by first | omega | (simp; done) | (simp; omega)) _) | (with_reducible refine Below.alloc ?_ (by first | omega | (simp; done) | (simp; omega)) _) | (with_reducible refine Below.drew ?_) | (with_reducible refine below_drewN ?_ _)))
        have HF20 := Lib.hid (z4.ext b20)
        have hfm : ∀ W, Below w.heap.size w W → ∀ e ∈ L, ValAt W d e.agg (f e) := fun W hb e he => ValAt.ext hb d (HFL.out e he)
        have HFM := Lib.hid hfm
        have HB13 := Lib.hid (B13.out.trans (HC.out.mono B13.out.size))
        have HFW := Lib.hid (flatW_one L)
        have HFWL := Lib.hid (show (flatW L).length = j * 5 from by rw [flatW_len, HLL.out])
        clear hown z4 z3 z2 b20 hfm hq HO
        go_wp2_with (at_builtin; refine wpList_append_nilF rfl (.tmp 104) (.tmp 106) 36 rfl Tryd.underlying36 HI1.out.1 HI1.out.2.1 HI1.out.2.2.1 HI1.out.2.2.2 rfl (by decide) wr.heap.size wr.heap.size rfl (own_nil (Nat.le_refl _)) ka j kc' (flatW L) rfl HF20.out HFWL.out HFW.out HZ3.out z1 (by unfold maxLen; omega) (by omega) (by simp) ?_; intro v21 w21 ho21 hgr21; obtain ⟨k21, c21, hv21⟩ := own_sliceW ho21; subst hv21; have HO21 := Lib.hid ho21; have HG21 := Lib.hid hgr21; clear ho21 hgr21)
        have hb21 : Below wr.heap.size wr w21 := below_own (show Below wr.heap.size wr (wr.alloc (.cells #[] 39)) from (by repeat (first | (with_reducible exact Below.refl _ _) | (with_reducible exact Below.refl _ _) | (with_reducible refine Below.setCell ?_ (by first | omega | (simp; done) | (simp; omega)) _) | (with_reducible refine Below.alloc ?_ (by first | omega | (simp; done) | (simp; omega)) _) | (with_reducible refine Below.drew ?_) | (with_reducible refine below_drewN ?_ _)))) (by simp) (own_nil (W := wr) (e := 39) (size := 5) (Nat.le_refl _)) (Nat.le_refl _) HG21.out
        have B21 := Lib.hid (HB13.out.trans (hb21.mono HB13.out.size))
        have D21 := Lib.hid hb21
        obtain ⟨g1, g2, g3, g4⟩ := flat_own HO21.out
        have hvl := Tryd_vList d f k21 j c21 L w21 HLL.out g4 g3 g1 (by omega) (HFM.out w21 B21.out) (HG.out w21 B21.out)
        rw [HY.out, HR3.out] at hvl
        have HVL := Lib.hid hvl
        have hkat := kidsAt_flat HZ4.out HLL.out z1 (by omega) HB13.out HFL.out
        have hky := list_at hkat HZ2.out HZ3.out
        rw [HY.out] at hky
        have HKY := Lib.hid hky
        clear hvl hb21 g1 g2 g3 g4 HO21 HG21 HF20 hkat hky
        refine HVL.out.mono ?_; rintro e' w22 ⟨⟨v22, rfl, hv22⟩, hb22⟩
        have B22 := Lib.hid (B21.out.trans (hb22.mono B21.out.size))
        have D22 := Lib.hid (D21.out.trans (hb22.mono D21.out.size))
        have HV22 := Lib.hid hv22
        have hq22 := HP.out.ext D22.out
        clear hb22 B21 D21 HVL HP
        cases r3 with
        | true =>
          rw [show ∀ v, wholeV true v = .tuple #[v, .int .i64 0] from fun v => rfl]
          obtain ⟨k3, n3, s3, a3, l3, c3, e3, f3, h3, rfl⟩ := hv22.agg
          have hq23 := hq22.alloc (.cells #[.int .i64 k3, .int .i64 n3, .string s3, .slice a3 l3 c3, .slice e3 f3 h3] 39)
          have HP23 := Lib.hid hq23
          have q13 := hq23.cells
          have l13 := hq23.lt
          have b23 : Below w22.heap.size w22 (w22.alloc (.cells #[.int .i64 k3, .int .i64 n3, .string s3, .slice a3 l3 c3, .slice e3 f3 h3] 39)) := (by repeat (first | (with_reducible exact Below.refl _ _) | (with_reducible exact Below.refl _ _) | (with_reducible refine Below.setCell ?_ (by first | omega | (simp; done) | (simp; omega)) _) | (with_reducible refine Below.alloc ?_ (by first | omega | (simp; done) | (simp; omega)) _) | (with_reducible refine Below.drew ?_) | (with_reducible refine below_drewN ?_ _)))
          have HRR := Lib.hid (by have q := Tryd_rRight (d + 1) Y _ _ (ValAt.ext (D22.out.trans (b23.mono D22.out.size)) _ HKY.out); rw [HR3.out] at q; exact q)
          have B23 := Lib.hid (B22.out.trans (b23.mono B22.out.size))
          have D23 := Lib.hid b23
          have HQ3 := Lib.hid (Blk.new w22 [.int .i64 k3, .int .i64 n3, .string s3, .slice a3 l3 c3, .slice e3 f3 h3] 39)
          clear hv22 hq22 hq23 b23
          go_wp2_with fail
          refine HRR.out.mono ?_; rintro e' w24 ⟨rfl, hb24⟩
          have B24 := Lib.hid (B23.out.trans (hb24.mono B23.out.size))
          have D24 := Lib.hid (D23.out.trans (hb24.mono D23.out.size))
          have hq24 := HP23.out.ext hb24
          have hr24 := HQ3.out.ext hb24
          have q13 := hq24.cells
          have l13 := hq24.lt
          have q24 := hr24.cells
          have l24 := hr24.lt
          have HTD := Lib.hid (Tryd_told (some ⟨d + 1, Y⟩) true rfl (.agg #[.int .i64 k3, .int .i64 n3, .string s3, .slice a3 l3 c3, .slice e3 f3 h3]) 5 0 ⟨#[]⟩ ka none j kc' 0 0 w22 w24 HV22.out (fun z hz => by cases hz; exact ValAt.ext D22.out _ HKY.out) (fun z hz => by cases hz; exact HR3.out) D24.out)
          clear hb24 hq24 hr24 HP23 HQ3 B23 D23 HRR
          go_wp2_with fail
          refine HTD.out.mono ?_; rintro e' w25 ⟨rfl, hb25⟩
          have B25 := Lib.hid (B24.out.trans (hb25.mono B24.out.size))
          clear hb25 HTD B24 D24 q13 l13 q24 l24
          have HBT := Lib.hid (fun W => Tryd_vBool true W)
          have HBFA := Lib.hid (fun W => Tryd_vBool false W)
          have HNU := Lib.hid (fun W => Tryd_vNull W)
          have HIN := Lib.hid (fun W => Tryd_vInt nn W)
          have HS1 := Lib.hid (fun W => Tryd_sameLeaf 1 0 (by omega) (by unfold I64'; omega) W)
          have HS3 := Lib.hid (fun W => Tryd_sameLeaf 3 nn (by omega) HNN.out W)
          have HS2 := Lib.hid (fun W => Tryd_sameLeaf 2 1 (by omega) (by unfold I64'; omega) W)
          have HS0 := Lib.hid (fun W => Tryd_sameLeaf 2 0 (by omega) (by unfold I64'; omega) W)
          go_wp2_with fail
          refine (HBT.out _).mono ?_; rintro e' w26 ⟨rfl, hb26⟩
          have B26 := Lib.hid (B25.out.trans (hb26.mono B25.out.size))
          clear hb26 HBT B25
          go_wp2_with fail
          refine (HBFA.out _).mono ?_; rintro e' w27 ⟨rfl, hb27⟩
          have b27 := B26.out.trans (hb27.mono B26.out.size)
          have b28 : Below w.heap.size w ((w27.alloc (.cells #[.int .i64 2, .int .i64 1, .string ⟨#[]⟩, .slice none 0 0, .slice none 0 0] 39)).alloc (.cells #[.int .i64 2, .int .i64 0, .string ⟨#[]⟩, .slice none 0 0, .slice none 0 0] 39)) := by have h := b27; have s := h.size; exact (by repeat (first | (with_reducible exact Below.refl _ _) | (with_reducible exact Below.refl _ _) | (with_reducible refine Below.setCell ?_ (by first | omega | (simp; done) | (simp; omega)) _) | (with_reducible refine Below.alloc ?_ (by first | omega | (simp; done) | (simp; omega)) _) | (with_reducible refine Below.drew ?_) | (with_reducible refine below_drewN ?_ _) | (with_reducible refine Below.trans ?_ (h.mono (by first | omega | (simp; done) | (simp; omega))))))
          have B28 := Lib.hid b28
          have Q18 := Lib.hid ((Blk.new w27 [.int .i64 2, .int .i64 1, .string ⟨#[]⟩, .slice none 0 0, .slice none 0 0] 39).alloc (.cells #[.int .i64 2, .int .i64 0, .string ⟨#[]⟩, .slice none 0 0, .slice none 0 0] 39))
          have Q19 := Lib.hid (Blk.new' (w27.alloc (.cells #[.int .i64 2, .int .i64 1, .string ⟨#[]⟩, .slice none 0 0, .slice none 0 0] 39)) [.int .i64 2, .int .i64 0, .string ⟨#[]⟩, .slice none 0 0, .slice none 0 0] 39 (p := w27.heap.size + 1) (by simp))
          clear hb27 b27 b28 HBFA B26
          go_wp2_with fail
          refine (HNU.out _).mono ?_; rintro e' w29 ⟨rfl, hb29⟩
          have B29 := Lib.hid (B28.out.trans (hb29.mono B28.out.size))
          have H18 := Lib.hid (Q18.out.ext hb29)
          have H19 := Lib.hid (Q19.out.ext hb29)
          clear hb29 HNU B28 Q18 Q19
          go_wp2_with fail
          refine (HS1.out _).mono ?_; rintro e' w30 ⟨rfl, hb30⟩
          have B30 := Lib.hid (B29.out.trans (hb30.mono B29.out.size))
          have I18 := Lib.hid (H18.out.ext hb30)
          have I19 := Lib.hid (H19.out.ext hb30)
          clear hb30 HS1 B29 H18 H19
          go_wp2_with fail
          refine (HIN.out _).mono ?_; rintro e' w31 ⟨rfl, hb31⟩
          have B31 := Lib.hid (B30.out.trans (hb31.mono B30.out.size))
          have J18 := Lib.hid (I18.out.ext hb31)
          have J19 := Lib.hid (I19.out.ext hb31)
          clear hb31 HIN B30 I18 I19
          go_wp2_with fail
          refine (HS3.out _).mono ?_; rintro e' w32 ⟨rfl, hb32⟩
          have B32 := Lib.hid (B31.out.trans (hb32.mono B31.out.size))
          have hk18 := J18.out.ext hb32
          have hk19 := J19.out.ext hb32
          have q18 := hk18.cells
          have l18 := hk18.lt
          have K18 := Lib.hid hk18
          have K19 := Lib.hid hk19
          clear hb32 HS3 B31 J18 J19 hk18 hk19
          go_wp2_with fail
          refine (HS2.out _).mono ?_; rintro e' w33 ⟨rfl, hb33⟩
          have B33 := Lib.hid (B32.out.trans (hb33.mono B32.out.size))
          have hk19 := K19.out.ext hb33
          have q19 := hk19.cells
          have l19 := hk19.lt
          clear hb33 HS2 B32 K18 K19 q18 l18 hk19
          go_wp2_with fail
          refine (HS0.out _).mono ?_; rintro e' w34 ⟨rfl, hb34⟩
          have B34 := Lib.hid (B33.out.trans (hb34.mono B33.out.size))
          clear hb34 HS0 B33 q19 l19
          go_wp2
          go_ret
          exact ⟨rfl, by have h := B34.out; have s := h.size; exact (by repeat (first | (with_reducible exact Below.refl _ _) | (with_reducible exact Below.refl _ _) | (with_reducible refine Below.setCell ?_ (by first | omega | (simp; done) | (simp; omega)) _) | (with_reducible refine Below.alloc ?_ (by first | omega | (simp; done) | (simp; omega)) _) | (with_reducible refine Below.drew ?_) | (with_reducible refine below_drewN ?_ _) | (with_reducible refine Below.trans ?_ (h.mono (by first | omega | (simp; done) | (simp; omega))))))⟩
        | false =>
          rw [show ∀ v, wholeV false v = .tuple #[.agg #[.int .i64 0, .int .i64 0, .string ⟨#[]⟩, .slice none 0 0, .slice none 0 0], .int .i64 140] from fun v => rfl]
          have hq23 := hq22.alloc (.cells #[.int .i64 0, .int .i64 0, .string ⟨#[]⟩, .slice none 0 0, .slice none 0 0] 39)
          have HP23 := Lib.hid hq23
          have q13 := hq23.cells
          have l13 := hq23.lt
          have b23 : Below w22.heap.size w22 (w22.alloc (.cells #[.int .i64 0, .int .i64 0, .string ⟨#[]⟩, .slice none 0 0, .slice none 0 0] 39)) := (by repeat (first | (with_reducible exact Below.refl _ _) | (with_reducible exact Below.refl _ _) | (with_reducible refine Below.setCell ?_ (by first | omega | (simp; done) | (simp; omega)) _) | (with_reducible refine Below.alloc ?_ (by first | omega | (simp; done) | (simp; omega)) _) | (with_reducible refine Below.drew ?_) | (with_reducible refine below_drewN ?_ _)))
          have HRR := Lib.hid (by have q := Tryd_rRight (d + 1) Y _ _ (ValAt.ext (D22.out.trans (b23.mono D22.out.size)) _ HKY.out); rw [HR3.out] at q; exact q)
          have B23 := Lib.hid (B22.out.trans (b23.mono B22.out.size))
          have D23 := Lib.hid b23
          have HQ3 := Lib.hid (Blk.new w22 [.int .i64 0, .int .i64 0, .string ⟨#[]⟩, .slice none 0 0, .slice none 0 0] 39)
          clear hv22 hq22 hq23 b23
          go_wp2_with fail
          refine HRR.out.mono ?_; rintro e' w24 ⟨rfl, hb24⟩
          have B24 := Lib.hid (B23.out.trans (hb24.mono B23.out.size))
          have D24 := Lib.hid (D23.out.trans (hb24.mono D23.out.size))
          have hq24 := HP23.out.ext hb24
          have hr24 := HQ3.out.ext hb24
          have q13 := hq24.cells
          have l13 := hq24.lt
          have q24 := hr24.cells
          have l24 := hr24.lt
          have HTD := Lib.hid (Tryd_told none false rfl (.agg #[.int .i64 0, .int .i64 0, .string ⟨#[]⟩, .slice none 0 0, .slice none 0 0]) 5 0 ⟨#[]⟩ ka none j kc' 0 0 w22 w24 rfl (fun z hz => by cases hz) (fun z hz => by cases hz) D24.out)
          clear hb24 hq24 hr24 HP23 HQ3 B23 D23 HRR
          go_wp2_with fail
          refine HTD.out.mono ?_; rintro e' w25 ⟨rfl, hb25⟩
          have B25 := Lib.hid (B24.out.trans (hb25.mono B24.out.size))
          clear hb25 HTD B24 D24 q13 l13 q24 l24
          have HBT := Lib.hid (fun W => Tryd_vBool true W)
          have HBFA := Lib.hid (fun W => Tryd_vBool false W)
          have HNU := Lib.hid (fun W => Tryd_vNull W)
          have HIN := Lib.hid (fun W => Tryd_vInt nn W)
          have HS1 := Lib.hid (fun W => Tryd_sameLeaf 1 0 (by omega) (by unfold I64'; omega) W)
          have HS3 := Lib.hid (fun W => Tryd_sameLeaf 3 nn (by omega) HNN.out W)
          have HS2 := Lib.hid (fun W => Tryd_sameLeaf 2 1 (by omega) (by unfold I64'; omega) W)
          have HS0 := Lib.hid (fun W => Tryd_sameLeaf 2 0 (by omega) (by unfold I64'; omega) W)
          go_wp2_with fail
          refine (HBT.out _).mono ?_; rintro e' w26 ⟨rfl, hb26⟩
          have B26 := Lib.hid (B25.out.trans (hb26.mono B25.out.size))
          clear hb26 HBT B25
          go_wp2_with fail
          refine (HBFA.out _).mono ?_; rintro e' w27 ⟨rfl, hb27⟩
          have b27 := B26.out.trans (hb27.mono B26.out.size)
          have b28 : Below w.heap.size w ((w27.alloc (.cells #[.int .i64 2, .int .i64 1, .string ⟨#[]⟩, .slice none 0 0, .slice none 0 0] 39)).alloc (.cells #[.int .i64 2, .int .i64 0, .string ⟨#[]⟩, .slice none 0 0, .slice none 0 0] 39)) := by have h := b27; have s := h.size; exact (by repeat (first | (with_reducible exact Below.refl _ _) | (with_reducible exact Below.refl _ _) | (with_reducible refine Below.setCell ?_ (by first | omega | (simp; done) | (simp; omega)) _) | (with_reducible refine Below.alloc ?_ (by first | omega | (simp; done) | (simp; omega)) _) | (with_reducible refine Below.drew ?_) | (with_reducible refine below_drewN ?_ _) | (with_reducible refine Below.trans ?_ (h.mono (by first | omega | (simp; done) | (simp; omega))))))
          have B28 := Lib.hid b28
          have Q18 := Lib.hid ((Blk.new w27 [.int .i64 2, .int .i64 1, .string ⟨#[]⟩, .slice none 0 0, .slice none 0 0] 39).alloc (.cells #[.int .i64 2, .int .i64 0, .string ⟨#[]⟩, .slice none 0 0, .slice none 0 0] 39))
          have Q19 := Lib.hid (Blk.new' (w27.alloc (.cells #[.int .i64 2, .int .i64 1, .string ⟨#[]⟩, .slice none 0 0, .slice none 0 0] 39)) [.int .i64 2, .int .i64 0, .string ⟨#[]⟩, .slice none 0 0, .slice none 0 0] 39 (p := w27.heap.size + 1) (by simp))
          clear hb27 b27 b28 HBFA B26
          go_wp2_with fail
          refine (HNU.out _).mono ?_; rintro e' w29 ⟨rfl, hb29⟩
          have B29 := Lib.hid (B28.out.trans (hb29.mono B28.out.size))
          have H18 := Lib.hid (Q18.out.ext hb29)
          have H19 := Lib.hid (Q19.out.ext hb29)
          clear hb29 HNU B28 Q18 Q19
          go_wp2_with fail
          refine (HS1.out _).mono ?_; rintro e' w30 ⟨rfl, hb30⟩
          have B30 := Lib.hid (B29.out.trans (hb30.mono B29.out.size))
          have I18 := Lib.hid (H18.out.ext hb30)
          have I19 := Lib.hid (H19.out.ext hb30)
          clear hb30 HS1 B29 H18 H19
          go_wp2_with fail
          refine (HIN.out _).mono ?_; rintro e' w31 ⟨rfl, hb31⟩
          have B31 := Lib.hid (B30.out.trans (hb31.mono B30.out.size))
          have J18 := Lib.hid (I18.out.ext hb31)
          have J19 := Lib.hid (I19.out.ext hb31)
          clear hb31 HIN B30 I18 I19
          go_wp2_with fail
          refine (HS3.out _).mono ?_; rintro e' w32 ⟨rfl, hb32⟩
          have B32 := Lib.hid (B31.out.trans (hb32.mono B31.out.size))
          have hk18 := J18.out.ext hb32
          have hk19 := J19.out.ext hb32
          have q18 := hk18.cells
          have l18 := hk18.lt
          have K18 := Lib.hid hk18
          have K19 := Lib.hid hk19
          clear hb32 HS3 B31 J18 J19 hk18 hk19
          go_wp2_with fail
          refine (HS2.out _).mono ?_; rintro e' w33 ⟨rfl, hb33⟩
          have B33 := Lib.hid (B32.out.trans (hb33.mono B32.out.size))
          have hk19 := K19.out.ext hb33
          have q19 := hk19.cells
          have l19 := hk19.lt
          clear hb33 HS2 B32 K18 K19 q18 l18 hk19
          go_wp2_with fail
          refine (HS0.out _).mono ?_; rintro e' w34 ⟨rfl, hb34⟩
          have B34 := Lib.hid (B33.out.trans (hb34.mono B33.out.size))
          clear hb34 HS0 B33 q19 l19
          go_wp2
          go_ret
          exact ⟨rfl, by have h := B34.out; have s := h.size; exact (by repeat (first | (with_reducible exact Below.refl _ _) | (with_reducible exact Below.refl _ _) | (with_reducible refine Below.setCell ?_ (by first | omega | (simp; done) | (simp; omega)) _) | (with_reducible refine Below.alloc ?_ (by first | omega | (simp; done) | (simp; omega)) _) | (with_reducible refine Below.drew ?_) | (with_reducible refine below_drewN ?_ _) | (with_reducible refine Below.trans ?_ (h.mono (by first | omega | (simp; done) | (simp; omega))))))⟩
  | false =>
    rw [show ∀ v, wholeV false v = .tuple #[.agg #[.int .i64 0, .int .i64 0, .string ⟨#[]⟩, .slice none 0 0, .slice none 0 0], .int .i64 140] from fun v => rfl]
    have b4 : Below w.heap.size w (w3.alloc (.cells #[.int .i64 0, .int .i64 0, .string ⟨#[]⟩, .slice none 0 0, .slice none 0 0] 39)) := by have h := B3.out; have s := h.size; exact (by repeat (first | (with_reducible exact Below.refl _ _) | (with_reducible exact Below.refl _ _) | (with_reducible refine Below.setCell ?_ (by first | omega | (simp; done) | (simp; omega)) _) | (with_reducible refine Below.alloc ?_ (by first | omega | (simp; done) | (simp; omega)) _) | (with_reducible refine Below.drew ?_) | (with_reducible refine below_drewN ?_ _) | (with_reducible refine Below.trans ?_ (h.mono (by first | omega | (simp; done) | (simp; omega))))))
    have B4 := Lib.hid b4
    have Q4 := Lib.hid (Blk.new w3 [.int .i64 0, .int .i64 0, .string ⟨#[]⟩, .slice none 0 0, .slice none 0 0] 39)
    have HF4 := Lib.hid (HF3.out.ext (show Below w3.heap.size w3 (w3.alloc (.cells #[.int .i64 0, .int .i64 0, .string ⟨#[]⟩, .slice none 0 0, .slice none 0 0] 39)) from (by repeat (first | (with_reducible exact Below.refl _ _) | (with_reducible exact Below.refl _ _) | (with_reducible refine Below.setCell ?_ (by first | omega | (simp; done) | (simp; omega)) _) | (with_reducible refine Below.alloc ?_ (by first | omega | (simp; done) | (simp; omega)) _) | (with_reducible refine Below.drew ?_) | (with_reducible refine below_drewN ?_ _)))))
    clear b4
    go_wp2_with fail
    refine (HRV.out _).mono ?_; rintro e' w5 ⟨rfl, hb5⟩
    have B5 := Lib.hid (B4.out.trans (hb5.mono B4.out.size))
    have hq5 := Q4.out.ext hb5
    have q5 := hq5.cells
    have l5 := hq5.lt
    have HF5 := Lib.hid (HF4.out.ext hb5)
    clear hb5 B4 Q4 HF4 B3 HF3
    go_wp2_with fail
    refine (HZZ.out _).mono ?_; rintro e' w6 ⟨rfl, hb6⟩
    have B6 := Lib.hid (B5.out.trans (hb6.mono B5.out.size))
    have HF6 := Lib.hid (HF5.out.ext hb6)
    clear hb6 B5 HF5 hq5 q5 l5
    have hkn : kk = none → kc = 0 := HN2.out
    have b7 : Below w.heap.size w (w6.alloc (.cells #[] 56)) := HB1.out _ B6.out
    have B7 := Lib.hid b7
    have HF7 := Lib.hid (HF6.out.ext (show Below w6.heap.size w6 (w6.alloc (.cells #[] 56)) from (by repeat (first | (with_reducible exact Below.refl _ _) | (with_reducible exact Below.refl _ _) | (with_reducible refine Below.setCell ?_ (by first | omega | (simp; done) | (simp; omega)) _) | (with_reducible refine Below.alloc ?_ (by first | omega | (simp; done) | (simp; omega)) _) | (with_reducible refine Below.drew ?_) | (with_reducible refine below_drewN ?_ _)))))
    have HKN := Lib.hid hkn
    clear b7 hkn
    go_wp2_with (at_builtin; refine wpList_append_nilF rfl (.tmp 64) (.tmp 65) 48 rfl Tryd.underlying48 hi0 hz0 hz1 hz2 rfl (by decide) w6.heap.size w6.heap.size rfl (own_nil (Nat.le_refl _)) kk m kc (flatE L) rfl HF7.out HFN.out HFO.out HKN.out f1 (by unfold maxLen; omega) (by omega) (by simp) ?_; intro v8 w8 ho8 hgr8; obtain ⟨k8, c8, hv8⟩ := own_sliceW ho8; subst hv8; have HO8 := Lib.hid ho8; have HG8 := Lib.hid hgr8; clear ho8 hgr8)
    have hb8 : Below w6.heap.size w6 w8 := below_own (show Below w6.heap.size w6 (w6.alloc (.cells #[] 56)) from (by repeat (first | (with_reducible exact Below.refl _ _) | (with_reducible exact Below.refl _ _) | (with_reducible refine Below.setCell ?_ (by first | omega | (simp; done) | (simp; omega)) _) | (with_reducible refine Below.alloc ?_ (by first | omega | (simp; done) | (simp; omega)) _) | (with_reducible refine Below.drew ?_) | (with_reducible refine below_drewN ?_ _)))) (by simp) (own_nil (W := w6) (e := 56) (size := 6) (Nat.le_refl _)) (Nat.le_refl _) HG8.out
    have B8 := Lib.hid (B6.out.trans (hb8.mono B6.out.size))
    have HF8 := Lib.hid (HF6.out.ext hb8)
    obtain ⟨g1, g2, g3, g4⟩ := own_flat HO8.out
    clear hb8 HF6 HF7 B7 HG8 HO8
    refine (HOB.out _ k8 c8 B8.out g4 g3 g1).mono ?_; rintro e' w9 ⟨⟨k1, n1, s1, a1, l1, c1, a2, l2, c2, rfl, hv1, hz1'⟩, hb9⟩
    have B9 := Lib.hid (B8.out.trans (hb9.mono B8.out.size))
    have HF9 := Lib.hid (HF8.out.ext hb9)
    have HV1 := Lib.hid hv1
    have HZ1 := Lib.hid hz1'
    have b10 : Below w.heap.size w (w9.alloc (.cells #[.int .i64 k1, .int .i64 n1, .string s1, .slice a1 l1 c1, .slice a2 l2 c2] 39)) := by have h := B9.out; have s := h.size; exact (by repeat (first | (with_reducible exact Below.refl _ _) | (with_reducible exact Below.refl _ _) | (with_reducible refine Below.setCell ?_ (by first | omega | (simp; done) | (simp; omega)) _) | (with_reducible refine Below.alloc ?_ (by first | omega | (simp; done) | (simp; omega)) _) | (with_reducible refine Below.drew ?_) | (with_reducible refine below_drewN ?_ _) | (with_reducible refine Below.trans ?_ (h.mono (by first | omega | (simp; done) | (simp; omega))))))
    have B10 := Lib.hid b10
    have HF10 := Lib.hid (HF9.out.ext (show Below w9.heap.size w9 (w9.alloc (.cells #[.int .i64 k1, .int .i64 n1, .string s1, .slice a1 l1 c1, .slice a2 l2 c2] 39)) from (by repeat (first | (with_reducible exact Below.refl _ _) | (with_reducible exact Below.refl _ _) | (with_reducible refine Below.setCell ?_ (by first | omega | (simp; done) | (simp; omega)) _) | (with_reducible refine Below.alloc ?_ (by first | omega | (simp; done) | (simp; omega)) _) | (with_reducible refine Below.drew ?_) | (with_reducible refine below_drewN ?_ _)))))
    have P10 := Lib.hid (Blk.new w9 [.int .i64 k1, .int .i64 n1, .string s1, .slice a1 l1 c1, .slice a2 l2 c2] 39)
    have D10 := Lib.hid (show Below w9.heap.size w9 (w9.alloc (.cells #[.int .i64 k1, .int .i64 n1, .string s1, .slice a1 l1 c1, .slice a2 l2 c2] 39)) from (by repeat (first | (with_reducible exact Below.refl _ _) | (with_reducible exact Below.refl _ _) | (with_reducible refine Below.setCell ?_ (by first | omega | (simp; done) | (simp; omega)) _) | (with_reducible refine Below.alloc ?_ (by first | omega | (simp; done) | (simp; omega)) _) | (with_reducible refine Below.drew ?_) | (with_reducible refine below_drewN ?_ _))))
    clear hv1 hz1' hb9 b10 g1 g2 g3 g4 HF8 B8 HOB
    go_wp2_with fail
    refine (HRO.out _ kk kc B10.out HF10.out).mono ?_; rintro e' w11 ⟨⟨k2, n2, s2, b1, m1, d1, b2, m2, d2, rfl, hv2, hz2'⟩, hb11⟩
    have B11 := Lib.hid (B10.out.trans (hb11.mono B10.out.size))
    have D11 := Lib.hid (D10.out.trans (hb11.mono D10.out.size))
    have HF11 := Lib.hid (HF10.out.ext hb11)
    have hq10 := P10.out.ext hb11
    have HV2 := Lib.hid hv2
    have HZ2 := Lib.hid hz2'
    have b12 : Below w.heap.size w (w11.alloc (.cells #[.int .i64 k2, .int .i64 n2, .string s2, .slice b1 m1 d1, .slice b2 m2 d2] 39)) := by have h := B11.out; have s := h.size; exact (by repeat (first | (with_reducible exact Below.refl _ _) | (with_reducible exact Below.refl _ _) | (with_reducible refine Below.setCell ?_ (by first | omega | (simp; done) | (simp; omega)) _) | (with_reducible refine Below.alloc ?_ (by first | omega | (simp; done) | (simp; omega)) _) | (with_reducible refine Below.drew ?_) | (with_reducible refine below_drewN ?_ _) | (with_reducible refine Below.trans ?_ (h.mono (by first | omega | (simp; done) | (simp; omega))))))
    have d12 : Below w11.heap.size w11 (w11.alloc (.cells #[.int .i64 k2, .int .i64 n2, .string s2, .slice b1 m1 d1, .slice b2 m2 d2] 39)) := (by repeat (first | (with_reducible exact Below.refl _ _) | (with_reducible exact Below.refl _ _) | (with_reducible refine Below.setCell ?_ (by first | omega | (simp; done) | (simp; omega)) _) | (with_reducible refine Below.alloc ?_ (by first | omega | (simp; done) | (simp; omega)) _) | (with_reducible refine Below.drew ?_) | (with_reducible refine below_drewN ?_ _)))
    have hq10a := hq10.ext d12
    have q10 := hq10.cells
    have l10 := hq10.lt
    obtain ⟨ez, hez⟩ : ∃ ez, (E == 0) = ez := ⟨_, rfl⟩
    have HTOLD := Lib.hid (show Calls Tryd.prog 25 #[.agg #[.int .i64 k1, .int .i64 n1, .string s1, .slice a1 l1 c1, .slice a2 l2 c2], .bool ez, .agg #[.int .i64 k2, .int .i64 n2, .string s2, .slice b1 m1 d1, .slice b2 m2 d2], .bool ez] (w11.alloc (.cells #[.int .i64 k2, .int .i64 n2, .string s2, .slice b1 m1 d1, .slice b2 m2 d2] 39)) fun e w' => e = .returned (.bool true) ∧ Below (w11.alloc (.cells #[.int .i64 k2, .int .i64 n2, .string s2, .slice b1 m1 d1, .slice b2 m2 d2] 39)).heap.size (w11.alloc (.cells #[.int .i64 k2, .int .i64 n2, .string s2, .slice b1 m1 d1, .slice b2 m2 d2] 39)) w' from by
      cases ez with
      | true =>
        have h0 : E = 0 := by simpa using hez
        exact Tryd_told (some ⟨d + 1, X⟩) true rfl _ k2 n2 s2 b1 b2 m1 d1 m2 d2 w11 _ (ValAt.ext D11.out _ (HV1.out h0)) (fun z hz => by cases hz; exact HV2.out h0) (fun z hz => by cases hz; exact HRX.out h0) d12
      | false =>
        have h0 : E ≠ 0 := by simpa using hez
        exact Tryd_told none false rfl _ k2 n2 s2 b1 b2 m1 d1 m2 d2 w11 _ (HZ1.out h0) (fun z hz => by cases hz) (fun z hz => by cases hz) d12)
    have B12 := Lib.hid b12
    have HF12 := Lib.hid (HF11.out.ext d12)
    clear hv2 hz2' hb11 b12 d12 hq10 hq10a HF10 HF11 B10 D10 D11 HRO
    go_wp2_with fail
    refine HTOLD.out.mono ?_; rintro e' w13 ⟨rfl, hb13⟩
    have B13 := Lib.hid (B12.out.trans (hb13.mono B12.out.size))
    have HF13 := Lib.hid (HF12.out.ext hb13)
    clear hb13 HTOLD HF12 B12 q10 l10 hez
    go_wp2_with fail
    go_loopw [91] (fun ix wr => ∃ (j : Nat) (ka : Option Addr) (kc' : Nat), j ≤ m ∧ ix = .int .i64 (j : Int) ∧ wr.ownsRow (w13.heap.size + 1) 39 5 (.slice ka j kc') j (flatW (L.take j)) ∧ Blk wr w13.heap.size [.int .i64 5, .int .i64 0, .string ⟨#[]⟩, .slice ka j kc', .slice none 0 0] 39 ∧ Below w13.heap.size w13 wr) (fun ix _ => m - (intOf ix).toNat)
    case atStart => exact ⟨0, none, 0, Nat.zero_le _, by go_num, World.ownsRow_nil _ _ _ _, Blk.new _ [.int .i64 5, .int .i64 0, .string ⟨#[]⟩, .slice none 0 0, .slice none 0 0] _, (by repeat (first | (with_reducible exact Below.refl _ _) | (with_reducible exact Below.refl _ _) | (with_reducible refine Below.setCell ?_ (by first | omega | (simp; done) | (simp; omega)) _) | (with_reducible refine Below.alloc ?_ (by first | omega | (simp; done) | (simp; omega)) _) | (with_reducible refine Below.drew ?_) | (with_reducible refine below_drewN ?_ _)))⟩
    case round =>
      obtain ⟨j, ka, kc', hj, rfl, hown, hq, hbel⟩ := hrel
      have HO := Lib.hid hown
      have HP := Lib.hid hq
      have HC := Lib.hid hbel
      have q13 := hq.cells
      have l13 := hq.lt
      clear hown hbel
      by_cases hlt : j < m
      · have u1 : (j : Int) < (m : Int) := by omega
        obtain ⟨p, hp⟩ : ∃ p, L[j]? = some p := ⟨_, List.getElem?_eq_getElem (by have := HLL.out; omega)⟩
        obtain ⟨b, o, rfl, hbw, x0, x1, x2, x3, x4, x5⟩ := FlatAt.pair HF13.out HC.out hp
        have HPP := Lib.hid hp
        have hq2 := ((hq.alloc (.cells #[.string p.key, .int .i64 p.k, .int .i64 p.n, .string p.s, .slice p.a1 p.l1 p.c1, .slice p.a2 p.l2 p.c2] 56)).alloc (.cells #[.int .i64 p.k, .int .i64 p.n, .string p.s, .slice p.a1 p.l1 p.c1, .slice p.a2 p.l2 p.c2] 39))
        have HQ2 := Lib.hid hq2
        clear hp hq hq2
        go_wp2_with (at_builtin; refine wpList_append_ownF rfl (.tmp 96) (.tmp 99) 36 rfl Tryd.underlying36 HI1.out.1 HI1.out.2.1 HI1.out.2.2.1 HI1.out.2.2.2 rfl (by decide) (w13.heap.size + 1) j (.slice ka j kc') (flatW (L.take j)) rfl (ownsRow_below HO.out (by exact (by repeat (first | (with_reducible exact Below.refl _ _) | (with_reducible exact Below.refl _ _) | (with_reducible refine Below.setCell ?_ (by first | omega | (simp; done) | (simp; omega)) _) | (with_reducible refine Below.alloc ?_ (by first | omega | (simp; done) | (simp; omega)) _) | (with_reducible refine Below.drew ?_) | (with_reducible refine below_drewN ?_ _))))) (some ⟨wr.heap.size + 1, 0, none⟩) 1 1 p.vcells (by rfl) (fun j u hu => ⟨wr.heap.size + 1, 0, rfl, by simp, by rw [Nat.zero_add]; exact (Blk.new' _ p.vcells 39 (by simp)).cell j hu⟩) rfl (by simp [PairE.vcells, Value.oneCell']) (fun e => by cases e) (Nat.le_refl _) (by unfold maxLen; omega) (by omega) (by have := HC.out.size; have := HP.out.lt; simp; omega) ?_; intro v15 w15 ho15 hgr15; obtain ⟨k15, c15, hv15⟩ := own_sliceW ho15; subst hv15; have HO15 := Lib.hid ho15; have HG15 := Lib.hid hgr15; have h15 : Below (w13.heap.size + 1) wr w15 := below_own (W0 := wr) (B := w13.heap.size + 1) (by have := HP.out.lt; exact (by repeat (first | (with_reducible exact Below.refl _ _) | (with_reducible exact Below.refl _ _) | (with_reducible refine Below.setCell ?_ (by first | omega | (simp; done) | (simp; omega)) _) | (with_reducible refine Below.alloc ?_ (by first | omega | (simp; done) | (simp; omega)) _) | (with_reducible refine Below.drew ?_) | (with_reducible refine below_drewN ?_ _)))) (by have := HP.out.lt; simp; omega) (ownsRow_below HO.out (by exact (by repeat (first | (with_reducible exact Below.refl _ _) | (with_reducible exact Below.refl _ _) | (with_reducible refine Below.setCell ?_ (by first | omega | (simp; done) | (simp; omega)) _) | (with_reducible refine Below.alloc ?_ (by first | omega | (simp; done) | (simp; omega)) _) | (with_reducible refine Below.drew ?_) | (with_reducible refine below_drewN ?_ _))))) (Nat.le_refl _) HG15.out; have H15 := Lib.hid h15; have q15 := (HP.out.below h15 (by omega)).cells; have m15 := (HP.out.below h15 (by omega)).marks; have l15 := (HP.out.below h15 (by omega)).lt; clear ho15 hgr15 h15 q13 l13)
        go_roundw
        case rel =>
          have hpp : flatW (L.take (j + 1)) = flatW (L.take j) ++ p.vcells := by unfold flatW; rw [List.take_add_one, HPP.out, List.flatMap_append]; simp
          have ho6 := (OnlyS.refl (· = w13.heap.size) w15).set w13.heap.size 3 (.slice k15 (j + 1) c15) rfl
          refine ⟨j + 1, k15, c15, by omega, by go_num, ?_, (HP.out.below H15.out (by omega)).set 3 _, (HC.out.trans (H15.out.mono (by omega))).trans (ho6.below (HC.out.trans (H15.out.mono (by omega))).size (fun b hb => by omega))⟩
          rw [hpp]
          exact ownsRow_onlyS HO15.out ho6 (fun b hb e => by have := own_high HO15.out hb; omega)
        case measure => simp [intOf]; omega
      · obtain rfl : j = m := by omega
        have u1 : ¬ (j : Int) < (j : Int) := by omega
        have hown := HO.out
        rw [List.take_of_length_le (by rw [HLL.out]; exact Nat.le_refl _)] at hown
        obtain ⟨z1, z2, z3, z4⟩ := own_flat hown
        have HZ3 := Lib.hid z3
        have HZ4 := Lib.hid z4
        have HZ2 := Lib.hid z2
        have b20 : Below wr.heap.size wr (wr.alloc (.cells #[] 39)) := (by repeat (first | (with_reducible exact Below.refl _ _) | (with_reducible exact Below.refl _ _) | (with_reducible refine Below.setCell ?_ (by first | omega | (simp; done) | (simp; omega)) _) | (with_reducible refine Below.alloc ?_ (by first | omega | (simp; done) | (simp; omega)) _) | (with_reducible refine Below.drew ?_) | (with_reducible refine below_drewN ?_ _)))
        have HF20 := Lib.hid (z4.ext b20)
        have hfm : ∀ W, Below w.heap.size w W → ∀ e ∈ L, ValAt W d e.agg (f e) := fun W hb e he => ValAt.ext hb d (HFL.out e he)
        have HFM := Lib.hid hfm
        have HB13 := Lib.hid (B13.out.trans (HC.out.mono B13.out.size))
        have HFW := Lib.hid (flatW_one L)
        have HFWL := Lib.hid (show (flatW L).length = j * 5 from by rw [flatW_len, HLL.out])
        clear hown z4 z3 z2 b20 hfm hq HO
        go_wp2_with (at_builtin; refine wpList_append_nilF rfl (.tmp 104) (.tmp 106) 36 rfl Tryd.underlying36 HI1.out.1 HI1.out.2.1 HI1.out.2.2.1 HI1.out.2.2.2 rfl (by decide) wr.heap.size wr.heap.size rfl (own_nil (Nat.le_refl _)) ka j kc' (flatW L) rfl HF20.out HFWL.out HFW.out HZ3.out z1 (by unfold maxLen; omega) (by omega) (by simp) ?_; intro v21 w21 ho21 hgr21; obtain ⟨k21, c21, hv21⟩ := own_sliceW ho21; subst hv21; have HO21 := Lib.hid ho21; have HG21 := Lib.hid hgr21; clear ho21 hgr21)
        have hb21 : Below wr.heap.size wr w21 := below_own (show Below wr.heap.size wr (wr.alloc (.cells #[] 39)) from (by repeat (first | (with_reducible exact Below.refl _ _) | (with_reducible exact Below.refl _ _) | (with_reducible refine Below.setCell ?_ (by first | omega | (simp; done) | (simp; omega)) _) | (with_reducible refine Below.alloc ?_ (by first | omega | (simp; done) | (simp; omega)) _) | (with_reducible refine Below.drew ?_) | (with_reducible refine below_drewN ?_ _)))) (by simp) (own_nil (W := wr) (e := 39) (size := 5) (Nat.le_refl _)) (Nat.le_refl _) HG21.out
        have B21 := Lib.hid (HB13.out.trans (hb21.mono HB13.out.size))
        have D21 := Lib.hid hb21
        obtain ⟨g1, g2, g3, g4⟩ := flat_own HO21.out
        have hvl := Tryd_vList d f k21 j c21 L w21 HLL.out g4 g3 g1 (by omega) (HFM.out w21 B21.out) (HG.out w21 B21.out)
        rw [HY.out, HR3.out] at hvl
        have HVL := Lib.hid hvl
        have hkat := kidsAt_flat HZ4.out HLL.out z1 (by omega) HB13.out HFL.out
        have hky := list_at hkat HZ2.out HZ3.out
        rw [HY.out] at hky
        have HKY := Lib.hid hky
        clear hvl hb21 g1 g2 g3 g4 HO21 HG21 HF20 hkat hky
        refine HVL.out.mono ?_; rintro e' w22 ⟨⟨v22, rfl, hv22⟩, hb22⟩
        have B22 := Lib.hid (B21.out.trans (hb22.mono B21.out.size))
        have D22 := Lib.hid (D21.out.trans (hb22.mono D21.out.size))
        have HV22 := Lib.hid hv22
        have hq22 := HP.out.ext D22.out
        clear hb22 B21 D21 HVL HP
        cases r3 with
        | true =>
          rw [show ∀ v, wholeV true v = .tuple #[v, .int .i64 0] from fun v => rfl]
          obtain ⟨k3, n3, s3, a3, l3, c3, e3, f3, h3, rfl⟩ := hv22.agg
          have hq23 := hq22.alloc (.cells #[.int .i64 k3, .int .i64 n3, .string s3, .slice a3 l3 c3, .slice e3 f3 h3] 39)
          have HP23 := Lib.hid hq23
          have q13 := hq23.cells
          have l13 := hq23.lt
          have b23 : Below w22.heap.size w22 (w22.alloc (.cells #[.int .i64 k3, .int .i64 n3, .string s3, .slice a3 l3 c3, .slice e3 f3 h3] 39)) := (by repeat (first | (with_reducible exact Below.refl _ _) | (with_reducible exact Below.refl _ _) | (with_reducible refine Below.setCell ?_ (by first | omega | (simp; done) | (simp; omega)) _) | (with_reducible refine Below.alloc ?_ (by first | omega | (simp; done) | (simp; omega)) _) | (with_reducible refine Below.drew ?_) | (with_reducible refine below_drewN ?_ _)))
          have HRR := Lib.hid (by have q := Tryd_rRight (d + 1) Y _ _ (ValAt.ext (D22.out.trans (b23.mono D22.out.size)) _ HKY.out); rw [HR3.out] at q; exact q)
          have B23 := Lib.hid (B22.out.trans (b23.mono B22.out.size))
          have D23 := Lib.hid b23
          have HQ3 := Lib.hid (Blk.new w22 [.int .i64 k3, .int .i64 n3, .string s3, .slice a3 l3 c3, .slice e3 f3 h3] 39)
          clear hv22 hq22 hq23 b23
          go_wp2_with fail
          refine HRR.out.mono ?_; rintro e' w24 ⟨rfl, hb24⟩
          have B24 := Lib.hid (B23.out.trans (hb24.mono B23.out.size))
          have D24 := Lib.hid (D23.out.trans (hb24.mono D23.out.size))
          have hq24 := HP23.out.ext hb24
          have hr24 := HQ3.out.ext hb24
          have q13 := hq24.cells
          have l13 := hq24.lt
          have q24 := hr24.cells
          have l24 := hr24.lt
          have HTD := Lib.hid (Tryd_told (some ⟨d + 1, Y⟩) true rfl (.agg #[.int .i64 k3, .int .i64 n3, .string s3, .slice a3 l3 c3, .slice e3 f3 h3]) 5 0 ⟨#[]⟩ ka none j kc' 0 0 w22 w24 HV22.out (fun z hz => by cases hz; exact ValAt.ext D22.out _ HKY.out) (fun z hz => by cases hz; exact HR3.out) D24.out)
          clear hb24 hq24 hr24 HP23 HQ3 B23 D23 HRR
          go_wp2_with fail
          refine HTD.out.mono ?_; rintro e' w25 ⟨rfl, hb25⟩
          have B25 := Lib.hid (B24.out.trans (hb25.mono B24.out.size))
          clear hb25 HTD B24 D24 q13 l13 q24 l24
          have HBT := Lib.hid (fun W => Tryd_vBool true W)
          have HBFA := Lib.hid (fun W => Tryd_vBool false W)
          have HNU := Lib.hid (fun W => Tryd_vNull W)
          have HIN := Lib.hid (fun W => Tryd_vInt nn W)
          have HS1 := Lib.hid (fun W => Tryd_sameLeaf 1 0 (by omega) (by unfold I64'; omega) W)
          have HS3 := Lib.hid (fun W => Tryd_sameLeaf 3 nn (by omega) HNN.out W)
          have HS2 := Lib.hid (fun W => Tryd_sameLeaf 2 1 (by omega) (by unfold I64'; omega) W)
          have HS0 := Lib.hid (fun W => Tryd_sameLeaf 2 0 (by omega) (by unfold I64'; omega) W)
          go_wp2_with fail
          refine (HBT.out _).mono ?_; rintro e' w26 ⟨rfl, hb26⟩
          have B26 := Lib.hid (B25.out.trans (hb26.mono B25.out.size))
          clear hb26 HBT B25
          go_wp2_with fail
          refine (HBFA.out _).mono ?_; rintro e' w27 ⟨rfl, hb27⟩
          have b27 := B26.out.trans (hb27.mono B26.out.size)
          have b28 : Below w.heap.size w ((w27.alloc (.cells #[.int .i64 2, .int .i64 1, .string ⟨#[]⟩, .slice none 0 0, .slice none 0 0] 39)).alloc (.cells #[.int .i64 2, .int .i64 0, .string ⟨#[]⟩, .slice none 0 0, .slice none 0 0] 39)) := by have h := b27; have s := h.size; exact (by repeat (first | (with_reducible exact Below.refl _ _) | (with_reducible exact Below.refl _ _) | (with_reducible refine Below.setCell ?_ (by first | omega | (simp; done) | (simp; omega)) _) | (with_reducible refine Below.alloc ?_ (by first | omega | (simp; done) | (simp; omega)) _) | (with_reducible refine Below.drew ?_) | (with_reducible refine below_drewN ?_ _) | (with_reducible refine Below.trans ?_ (h.mono (by first | omega | (simp; done) | (simp; omega))))))
          have B28 := Lib.hid b28
          have Q18 := Lib.hid ((Blk.new w27 [.int .i64 2, .int .i64 1, .string ⟨#[]⟩, .slice none 0 0, .slice none 0 0] 39).alloc (.cells #[.int .i64 2, .int .i64 0, .string ⟨#[]⟩, .slice none 0 0, .slice none 0 0] 39))
          have Q19 := Lib.hid (Blk.new' (w27.alloc (.cells #[.int .i64 2, .int .i64 1, .string ⟨#[]⟩, .slice none 0 0, .slice none 0 0] 39)) [.int .i64 2, .int .i64 0, .string ⟨#[]⟩, .slice none 0 0, .slice none 0 0] 39 (p := w27.heap.size + 1) (by simp))
          clear hb27 b27 b28 HBFA B26
          go_wp2_with fail
          refine (HNU.out _).mono ?_; rintro e' w29 ⟨rfl, hb29⟩
          have B29 := Lib.hid (B28.out.trans (hb29.mono B28.out.size))
          have H18 := Lib.hid (Q18.out.ext hb29)
          have H19 := Lib.hid (Q19.out.ext hb29)
          clear hb29 HNU B28 Q18 Q19
          go_wp2_with fail
          refine (HS1.out _).mono ?_; rintro e' w30 ⟨rfl, hb30⟩
          have B30 := Lib.hid (B29.out.trans (hb30.mono B29.out.size))
          have I18 := Lib.hid (H18.out.ext hb30)
          have I19 := Lib.hid (H19.out.ext hb30)
          clear hb30 HS1 B29 H18 H19
          go_wp2_with fail
          refine (HIN.out _).mono ?_; rintro e' w31 ⟨rfl, hb31⟩
          have B31 := Lib.hid (B30.out.trans (hb31.mono B30.out.size))
          have J18 := Lib.hid (I18.out.ext hb31)
          have J19 := Lib.hid (I19.out.ext hb31)
          clear hb31 HIN B30 I18 I19
          go_wp2_with fail
          refine (HS3.out _).mono ?_; rintro e' w32 ⟨rfl, hb32⟩
          have B32 := Lib.hid (B31.out.trans (hb32.mono B31.out.size))
          have hk18 := J18.out.ext hb32
          have hk19 := J19.out.ext hb32
          have q18 := hk18.cells
          have l18 := hk18.lt
          have K18 := Lib.hid hk18
          have K19 := Lib.hid hk19
          clear hb32 HS3 B31 J18 J19 hk18 hk19
          go_wp2_with fail
          refine (HS2.out _).mono ?_; rintro e' w33 ⟨rfl, hb33⟩
          have B33 := Lib.hid (B32.out.trans (hb33.mono B32.out.size))
          have hk19 := K19.out.ext hb33
          have q19 := hk19.cells
          have l19 := hk19.lt
          clear hb33 HS2 B32 K18 K19 q18 l18 hk19
          go_wp2_with fail
          refine (HS0.out _).mono ?_; rintro e' w34 ⟨rfl, hb34⟩
          have B34 := Lib.hid (B33.out.trans (hb34.mono B33.out.size))
          clear hb34 HS0 B33 q19 l19
          go_wp2
          go_ret
          exact ⟨rfl, by have h := B34.out; have s := h.size; exact (by repeat (first | (with_reducible exact Below.refl _ _) | (with_reducible exact Below.refl _ _) | (with_reducible refine Below.setCell ?_ (by first | omega | (simp; done) | (simp; omega)) _) | (with_reducible refine Below.alloc ?_ (by first | omega | (simp; done) | (simp; omega)) _) | (with_reducible refine Below.drew ?_) | (with_reducible refine below_drewN ?_ _) | (with_reducible refine Below.trans ?_ (h.mono (by first | omega | (simp; done) | (simp; omega))))))⟩
        | false =>
          rw [show ∀ v, wholeV false v = .tuple #[.agg #[.int .i64 0, .int .i64 0, .string ⟨#[]⟩, .slice none 0 0, .slice none 0 0], .int .i64 140] from fun v => rfl]
          have hq23 := hq22.alloc (.cells #[.int .i64 0, .int .i64 0, .string ⟨#[]⟩, .slice none 0 0, .slice none 0 0] 39)
          have HP23 := Lib.hid hq23
          have q13 := hq23.cells
          have l13 := hq23.lt
          have b23 : Below w22.heap.size w22 (w22.alloc (.cells #[.int .i64 0, .int .i64 0, .string ⟨#[]⟩, .slice none 0 0, .slice none 0 0] 39)) := (by repeat (first | (with_reducible exact Below.refl _ _) | (with_reducible exact Below.refl _ _) | (with_reducible refine Below.setCell ?_ (by first | omega | (simp; done) | (simp; omega)) _) | (with_reducible refine Below.alloc ?_ (by first | omega | (simp; done) | (simp; omega)) _) | (with_reducible refine Below.drew ?_) | (with_reducible refine below_drewN ?_ _)))
          have HRR := Lib.hid (by have q := Tryd_rRight (d + 1) Y _ _ (ValAt.ext (D22.out.trans (b23.mono D22.out.size)) _ HKY.out); rw [HR3.out] at q; exact q)
          have B23 := Lib.hid (B22.out.trans (b23.mono B22.out.size))
          have D23 := Lib.hid b23
          have HQ3 := Lib.hid (Blk.new w22 [.int .i64 0, .int .i64 0, .string ⟨#[]⟩, .slice none 0 0, .slice none 0 0] 39)
          clear hv22 hq22 hq23 b23
          go_wp2_with fail
          refine HRR.out.mono ?_; rintro e' w24 ⟨rfl, hb24⟩
          have B24 := Lib.hid (B23.out.trans (hb24.mono B23.out.size))
          have D24 := Lib.hid (D23.out.trans (hb24.mono D23.out.size))
          have hq24 := HP23.out.ext hb24
          have hr24 := HQ3.out.ext hb24
          have q13 := hq24.cells
          have l13 := hq24.lt
          have q24 := hr24.cells
          have l24 := hr24.lt
          have HTD := Lib.hid (Tryd_told none false rfl (.agg #[.int .i64 0, .int .i64 0, .string ⟨#[]⟩, .slice none 0 0, .slice none 0 0]) 5 0 ⟨#[]⟩ ka none j kc' 0 0 w22 w24 rfl (fun z hz => by cases hz) (fun z hz => by cases hz) D24.out)
          clear hb24 hq24 hr24 HP23 HQ3 B23 D23 HRR
          go_wp2_with fail
          refine HTD.out.mono ?_; rintro e' w25 ⟨rfl, hb25⟩
          have B25 := Lib.hid (B24.out.trans (hb25.mono B24.out.size))
          clear hb25 HTD B24 D24 q13 l13 q24 l24
          have HBT := Lib.hid (fun W => Tryd_vBool true W)
          have HBFA := Lib.hid (fun W => Tryd_vBool false W)
          have HNU := Lib.hid (fun W => Tryd_vNull W)
          have HIN := Lib.hid (fun W => Tryd_vInt nn W)
          have HS1 := Lib.hid (fun W => Tryd_sameLeaf 1 0 (by omega) (by unfold I64'; omega) W)
          have HS3 := Lib.hid (fun W => Tryd_sameLeaf 3 nn (by omega) HNN.out W)
          have HS2 := Lib.hid (fun W => Tryd_sameLeaf 2 1 (by omega) (by unfold I64'; omega) W)
          have HS0 := Lib.hid (fun W => Tryd_sameLeaf 2 0 (by omega) (by unfold I64'; omega) W)
          go_wp2_with fail
          refine (HBT.out _).mono ?_; rintro e' w26 ⟨rfl, hb26⟩
          have B26 := Lib.hid (B25.out.trans (hb26.mono B25.out.size))
          clear hb26 HBT B25
          go_wp2_with fail
          refine (HBFA.out _).mono ?_; rintro e' w27 ⟨rfl, hb27⟩
          have b27 := B26.out.trans (hb27.mono B26.out.size)
          have b28 : Below w.heap.size w ((w27.alloc (.cells #[.int .i64 2, .int .i64 1, .string ⟨#[]⟩, .slice none 0 0, .slice none 0 0] 39)).alloc (.cells #[.int .i64 2, .int .i64 0, .string ⟨#[]⟩, .slice none 0 0, .slice none 0 0] 39)) := by have h := b27; have s := h.size; exact (by repeat (first | (with_reducible exact Below.refl _ _) | (with_reducible exact Below.refl _ _) | (with_reducible refine Below.setCell ?_ (by first | omega | (simp; done) | (simp; omega)) _) | (with_reducible refine Below.alloc ?_ (by first | omega | (simp; done) | (simp; omega)) _) | (with_reducible refine Below.drew ?_) | (with_reducible refine below_drewN ?_ _) | (with_reducible refine Below.trans ?_ (h.mono (by first | omega | (simp; done) | (simp; omega))))))
          have B28 := Lib.hid b28
          have Q18 := Lib.hid ((Blk.new w27 [.int .i64 2, .int .i64 1, .string ⟨#[]⟩, .slice none 0 0, .slice none 0 0] 39).alloc (.cells #[.int .i64 2, .int .i64 0, .string ⟨#[]⟩, .slice none 0 0, .slice none 0 0] 39))
          have Q19 := Lib.hid (Blk.new' (w27.alloc (.cells #[.int .i64 2, .int .i64 1, .string ⟨#[]⟩, .slice none 0 0, .slice none 0 0] 39)) [.int .i64 2, .int .i64 0, .string ⟨#[]⟩, .slice none 0 0, .slice none 0 0] 39 (p := w27.heap.size + 1) (by simp))
          clear hb27 b27 b28 HBFA B26
          go_wp2_with fail
          refine (HNU.out _).mono ?_; rintro e' w29 ⟨rfl, hb29⟩
          have B29 := Lib.hid (B28.out.trans (hb29.mono B28.out.size))
          have H18 := Lib.hid (Q18.out.ext hb29)
          have H19 := Lib.hid (Q19.out.ext hb29)
          clear hb29 HNU B28 Q18 Q19
          go_wp2_with fail
          refine (HS1.out _).mono ?_; rintro e' w30 ⟨rfl, hb30⟩
          have B30 := Lib.hid (B29.out.trans (hb30.mono B29.out.size))
          have I18 := Lib.hid (H18.out.ext hb30)
          have I19 := Lib.hid (H19.out.ext hb30)
          clear hb30 HS1 B29 H18 H19
          go_wp2_with fail
          refine (HIN.out _).mono ?_; rintro e' w31 ⟨rfl, hb31⟩
          have B31 := Lib.hid (B30.out.trans (hb31.mono B30.out.size))
          have J18 := Lib.hid (I18.out.ext hb31)
          have J19 := Lib.hid (I19.out.ext hb31)
          clear hb31 HIN B30 I18 I19
          go_wp2_with fail
          refine (HS3.out _).mono ?_; rintro e' w32 ⟨rfl, hb32⟩
          have B32 := Lib.hid (B31.out.trans (hb32.mono B31.out.size))
          have hk18 := J18.out.ext hb32
          have hk19 := J19.out.ext hb32
          have q18 := hk18.cells
          have l18 := hk18.lt
          have K18 := Lib.hid hk18
          have K19 := Lib.hid hk19
          clear hb32 HS3 B31 J18 J19 hk18 hk19
          go_wp2_with fail
          refine (HS2.out _).mono ?_; rintro e' w33 ⟨rfl, hb33⟩
          have B33 := Lib.hid (B32.out.trans (hb33.mono B32.out.size))
          have hk19 := K19.out.ext hb33
          have q19 := hk19.cells
          have l19 := hk19.lt
          clear hb33 HS2 B32 K18 K19 q18 l18 hk19
          go_wp2_with fail
          refine (HS0.out _).mono ?_; rintro e' w34 ⟨rfl, hb34⟩
          have B34 := Lib.hid (B33.out.trans (hb34.mono B33.out.size))
          clear hb34 HS0 B33 q19 l19
          go_wp2
          go_ret
          exact ⟨rfl, by have h := B34.out; have s := h.size; exact (by repeat (first | (with_reducible exact Below.refl _ _) | (with_reducible exact Below.refl _ _) | (with_reducible refine Below.setCell ?_ (by first | omega | (simp; done) | (simp; omega)) _) | (with_reducible refine Below.alloc ?_ (by first | omega | (simp; done) | (simp; omega)) _) | (with_reducible refine Below.drew ?_) | (with_reducible refine below_drewN ?_ _) | (with_reducible refine Below.trans ?_ (h.mono (by first | omega | (simp; done) | (simp; omega))))))⟩
end Go.Proofs.YtmcmknndhppljaaDoor
