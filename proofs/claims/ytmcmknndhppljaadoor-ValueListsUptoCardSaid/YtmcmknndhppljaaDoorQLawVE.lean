/-
  The law ValueLists, walked.
-/
import Derived.Test.YtmcmknndhppljaaDoorQLstB
import Derived.Test.YtmcmknndhppljaaDoorQAppF
import Derived.Test.YtmcmknndhppljaaDoorQPthA
namespace Go.Proofs.YtmcmknndhppljaaDoor
set_option linter.unusedVariables false
set_option linter.unusedSimpArgs false
open Go.RowKit Go.Dav
attribute [local go_sem] Gives ite_val ite_val_true

set_option maxRecDepth 8000 in
set_option maxHeartbeats 16000000 in
theorem Tryd_ValueLists (d : Nat) (f : PairE → ValN d) (a : Option Addr) (n c : Nat) (l : List PairE) (w : World) (hl : l.length = n) (hat : FlatAt w a (flatW l)) (hnil : a = none → c = 0) (hnc : n ≤ c) (hcm : c ≤ maxLen) (hn : n ≤ 1048576) (hf : ∀ e ∈ l, ValAt w d e.agg (f e)) (hN : GlobAt w 0 [.int .i64 0, .int .i64 0] 143) :
    Calls Tryd.prog 8 #[.slice a n c] w fun e' w' => e' = .returned (.bool true) ∧ Below w.heap.size w w' := by
  have hg : ∀ W, Below w.heap.size w W → GlobAt W 0 [.int .i64 0, .int .i64 0] 143 := fun W hb => hN.ext hb
  obtain ⟨m, hm⟩ : ∃ m, min n 300 = m := ⟨_, rfl⟩
  obtain ⟨M, hM⟩ : ∃ M, l.take m = M := ⟨_, rfl⟩
  have hMl : M.length = m := by rw [← hM, List.length_take]; omega
  have hmf : FlatAt w a (flatW M) := fun j u hu => hat j u (by
    have hj := (List.getElem?_eq_some_iff.1 hu).1
    have e : flatW l = flatW M ++ flatW (l.drop m) := by rw [← hM]; unfold flatW; rw [← List.flatMap_append, List.take_append_drop]
    rw [e, List.getElem?_append_left hj]; exact hu)
  have hfM : ∀ e ∈ M, ValAt w d e.agg (f e) := fun e he => hf e (List.mem_of_mem_take (by rw [← hM] at he; exact he))
  have e1 : min (n : Int) 300 = (m : Int) := by omega
  have p1 : (m : Int) ≤ 300 := by omega
  have p2 : m ≤ 300 := by omega
  have p3 : m ≤ c := by omega
  obtain ⟨X, hX⟩ : ∃ X, listOf d (M.map f) = X := ⟨_, rfl⟩
  obtain ⟨r, hr⟩ : ∃ r, rightV (d + 1) X = r := ⟨_, rfl⟩
  have HLI := Lib.hid (fun W (kk : Option Addr) (kc : Nat) (hb : Below w.heap.size w W) (h1 : FlatAt W kk (flatW M)) (h2 : kk = none → kc = 0) (h3 : m ≤ kc) => by
    have q := Tryd_vList d f kk m kc M W hMl h1 h2 h3 (by omega) (fun e he => ValAt.ext hb d (hfM e he)) (hg W hb)
    rw [hX, hr] at q
    exact q)
  have HKA := Lib.hid (fun (W : World) (kk : Option Addr) (kc : Nat) (hb : Below w.heap.size w W) (h1 : FlatAt W kk (flatW M)) (h3 : m ≤ kc) => kidsAt_flat h1 hMl h3 (by omega) hb hfM)
  have b1 : ∀ w1 : World, Below w.heap.size w w1 → Below w.heap.size w (w1.alloc (.cells #[] 39)) := fun w1 h => by have s := h.size; exact (by repeat (first | (with_reducible exact Below.refl _ _) | (with_reducible exact Below.refl _ _) | (with_reducible refine Below.setCell ?_ (by first | omega | (simp; done) | (simp; omega)) _) | (with_reducible refine Below.alloc ?_ (by first | omega | (simp; done) | (simp; omega)) _) | (with_reducible refine Below.drew ?_) | (with_reducible refine below_drewN ?_ _) | (with_reducible refine Below.trans ?_ (h.mono (by first | omega | (simp; done) | (simp; omega))))))
  have HMF := Lib.hid (fun W (hb : Below w.heap.size w W) => hmf.ext hb)
  have HB1 := Lib.hid b1
  have HML := Lib.hid hMl
  have HX := Lib.hid hX
  have HR := Lib.hid hr
  have HG := Lib.hid hg
  have HFO := Lib.hid (flatW_one M)
  have HFL := Lib.hid (show (flatW M).length = m * 5 from by rw [flatW_len, hMl])
  have HNIL := Lib.hid hnil
  have HW := Lib.hid (Tryd_wakes04 w hN)
  obtain ⟨i0, hi0, hz0, hz1, hz2⟩ := info_parts Tryd_infoValue
  clear hr hg hN hX hat hl hf hfM hmf hM hm hMl hcm hnc hnil b1 hn
  go_enter Tryd.func8, Tryd.ntmps8
  go_wp2_with fail
  refine HW.out.mono ?_; rintro e' w1 ⟨rfl, hb1⟩
  have B1 := Lib.hid hb1
  clear hb1 HW
  go_wp2_with (at_builtin; refine wpList_append_nilF rfl (.tmp 19) (.tmp 24) 36 rfl Tryd.underlying36 hi0 hz0 hz1 hz2 rfl (by decide) w1.heap.size w1.heap.size rfl (own_nil (Nat.le_refl _)) a m c (flatW M) (by first | rfl | (rw [← e1]; rfl)) (HMF.out _ (HB1.out _ B1.out)) HFL.out HFO.out HNIL.out (by omega) (by unfold maxLen; omega) (by omega) (by simp) ?_; intro v2 w2 ho2 hgr2; obtain ⟨kk, kc, hv2⟩ := own_sliceW ho2; subst hv2; have HO2 := Lib.hid ho2; have B2 := Lib.hid (below_own (B := w.heap.size) (HB1.out _ B1.out) (by have := B1.out.size; simp; omega) (own_nil (W := w1) (e := 39) (size := 5) (Nat.le_refl _)) (by have := B1.out.size; omega) hgr2); clear ho2 hgr2)
  obtain ⟨h1, h2, h3, h4⟩ := flat_own HO2.out
  have HF2 := Lib.hid h4
  refine (HLI.out w2 kk kc B2.out h4 h3 h1).mono ?_; rintro e' w3 ⟨⟨v, rfl, hv⟩, hb3⟩
  have B3 := Lib.hid (B2.out.trans (hb3.mono B2.out.size))
  have HK3 := Lib.hid ((HKA.out w2 kk kc B2.out h4 h1).ext hb3)
  have HV := Lib.hid hv
  clear hb3 h1 h2 h3 h4 HLI HO2 HF2 HMF HB1 HFO HFL HNIL
  cases r with
  | false =>
    rw [show ∀ v, wholeV false v = .tuple #[.agg #[.int .i64 0, .int .i64 0, .string ⟨#[]⟩, .slice none 0 0, .slice none 0 0], .int .i64 140] from fun v => rfl]
    clear hv HK3
    go_wp2
    go_ret
    exact ⟨rfl, by have h := B3.out; have s := h.size; exact (by repeat (first | (with_reducible exact Below.refl _ _) | (with_reducible exact Below.refl _ _) | (with_reducible refine Below.setCell ?_ (by first | omega | (simp; done) | (simp; omega)) _) | (with_reducible refine Below.alloc ?_ (by first | omega | (simp; done) | (simp; omega)) _) | (with_reducible refine Below.drew ?_) | (with_reducible refine below_drewN ?_ _) | (with_reducible refine Below.trans ?_ (h.mono (by first | omega | (simp; done) | (simp; omega))))))⟩
  | true =>
    rw [show ∀ v, wholeV true v = .tuple #[v, .int .i64 0] from fun v => rfl]
    obtain ⟨k1, n1, s1, a1, l1, c1, a2, l2, c2, rfl⟩ := hv.agg
    have hgl : ∀ W, Below w3.heap.size w3 W → GlobAt W 0 [.int .i64 0, .int .i64 0] 143 := fun W hb => HG.out W (B3.out.trans (hb.mono B3.out.size))
    have hrX : rightV (d + 1) (listOf d (M.map f)) = true := by rw [HX.out]; exact HR.out
    have hln : lenV d X = (m, true) := by rw [← HX.out, list_len hrX, List.length_map, HML.out]
    have HLN := Lib.hid (fun W (hb : Below w3.heap.size w3 W) => by have q := Tryd_Len d X _ W (ValAt.ext hb _ hv) (hgl W hb); rw [hln] at q; exact q)
    have HAT := Lib.hid (fun W i (hb : Below w3.heap.size w3 W) => by have q := Tryd_At d X _ i w3 W hv hb (hgl W hb); rw [← HX.out, list_kid hrX] at q; exact q)
    have HSM := Lib.hid (fun W y u1 u2 (hb : Below w3.heap.size w3 W) (h1 : ValAt w3 d u1 y) (h2 : ValAt w3 d u2 y) (h3 : rightV d y = true) => by have q := Tryd_vSame d d y y _ _ W (ValAt.ext hb _ h1) (ValAt.ext hb _ h2) (hgl W hb); rw [sameV_self, h3] at q; exact q)
    have HKR := Lib.hid (show ∀ (i : Nat) y, (M.map f)[i]? = some y → rightV d y = true from fun i y hy => right_kid hrX (i := i) hy)
    obtain ⟨D, hD⟩ : ∃ D, depthV (d + 1) X = D := ⟨_, rfl⟩
    obtain ⟨N, hNN⟩ : ∃ N, nodesV (d + 1) X = N := ⟨_, rfl⟩
    have HDP := Lib.hid (fun W (hb : Below w3.heap.size w3 W) => by have q := Tryd_vDepth (d + 1) X _ W (ValAt.ext hb _ hv) (hgl W hb); rw [HR.out, hD, show ifR true D = (D : Int) from rfl] at q; exact q)
    have HND := Lib.hid (fun W (hb : Below w3.heap.size w3 W) => by have q := Tryd_vNodes (d + 1) X _ W (ValAt.ext hb _ hv) (hgl W hb); rw [HR.out, hNN, show ifR true N = (N : Int) from rfl] at q; exact q)
    obtain ⟨r2, hr2⟩ : ∃ r2, rightV (d + 2) (listOf (d + 1) [X]) = r2 := ⟨_, rfl⟩
    have hr2' : r2 = (decide (D < 8) && decide (N < 256)) := by rw [← hr2, list_right HR.out, hD, hNN]
    have hd2 : depthV (d + 2) (listOf (d + 1) [X]) = D + 1 := by rw [list_depth, hD]
    have HLW := Lib.hid (fun W (g : Nat) (hb : Below w3.heap.size w3 W) (hbl : Blk W g [.int .i64 k1, .int .i64 n1, .string s1, .slice a1 l1 c1, .slice a2 l2 c2] 39) => by
      have q := Tryd_vList (d + 1) (fun _ => X) (some ⟨g, 0, none⟩) 1 1 [⟨noStr, k1, n1, s1, a1, l1, c1, a2, l2, c2⟩] W rfl (fun j u hu => ⟨g, 0, rfl, hbl.lt, by rw [Nat.zero_add]; exact hbl.cell j hu⟩) (fun h => by cases h) (Nat.le_refl _) (by omega) (fun e he => by simp only [List.mem_singleton] at he; subst he; exact ValAt.ext hb _ hv) (hgl W hb)
      rw [show [(⟨noStr, k1, n1, s1, a1, l1, c1, a2, l2, c2⟩ : PairE)].map (fun _ => X) = [X] from rfl, hr2] at q
      exact q)
    have HDW := Lib.hid (fun W W2 v2 (hb : Below w3.heap.size w3 W2) (hv2 : ValAt W (d + 2) v2 (listOf (d + 1) [X])) (hb2 : Below W.heap.size W W2) (h : r2 = true) => by have q := Tryd_vDepth (d + 2) (listOf (d + 1) [X]) _ W2 (ValAt.ext hb2 _ hv2) (hgl W2 hb); rw [hr2, h, hd2, show ifR true (D + 1) = ((D + 1 : Nat) : Int) from rfl] at q; exact q)
    have HR2 := Lib.hid hr2'
    have hD8 : D ≤ 8 := by rw [← hD]; exact (right_iff.1 HR.out).2.1
    have hN256 : N ≤ 256 := by rw [← hNN]; exact (right_iff.1 HR.out).2.2
    clear hgl hrX hln hD hNN hr2 hr2' hd2 hv
    have c0 : Below w3.heap.size w3 (w3.alloc (.cells #[.int .i64 k1, .int .i64 n1, .string s1, .slice a1 l1 c1, .slice a2 l2 c2] 39)) := (by repeat (first | (with_reducible exact Below.refl _ _) | (with_reducible exact Below.refl _ _) | (with_reducible refine Below.setCell ?_ (by first | omega | (simp; done) | (simp; omega)) _) | (with_reducible refine Below.alloc ?_ (by first | omega | (simp; done) | (simp; omega)) _) | (with_reducible refine Below.drew ?_) | (with_reducible refine below_drewN ?_ _)))
    have C0 := Lib.hid c0
    have P0 := Lib.hid (Blk.new w3 [.int .i64 k1, .int .i64 n1, .string s1, .slice a1 l1 c1, .slice a2 l2 c2] 39)
    clear c0
    go_wp2_with fail
    refine (HLN.out _ C0.out).mono ?_; rintro e' w4 ⟨rfl, hb4⟩
    have C4 := Lib.hid (C0.out.trans (hb4.mono C0.out.size))
    have P4 := Lib.hid (P0.out.ext hb4)
    clear hb4 C0 P0 HLN
    go_wp2_with fail
    go_loopw [50] (fun ix wr => ∃ i : Nat, i ≤ m ∧ ix = .int .i64 (i : Int) ∧ Blk wr w3.heap.size [.int .i64 k1, .int .i64 n1, .string s1, .slice a1 l1 c1, .slice a2 l2 c2] 39 ∧ Below w3.heap.size w3 wr) (fun ix _ => m - (intOf ix).toNat)
    case atStart => exact ⟨0, Nat.zero_le _, by go_num, P4.out, C4.out⟩
    case round =>
      obtain ⟨i, hi, rfl, hq, hbel⟩ := hrel
      have q3 := hq.cells
      have l3 := hq.lt
      have HP := Lib.hid hq
      have HC := Lib.hid hbel
      clear hq hbel P4 C4
      by_cases hlt : i < m
      · have g1 : (i : Int) < (m : Int) := by omega
        obtain ⟨y, hy⟩ : ∃ y, (M.map f)[i]? = some y := ⟨_, List.getElem?_eq_getElem (by rw [List.length_map, HML.out]; omega)⟩
        have hry := HKR.out i y hy
        obtain ⟨b, o, k', n', s', a1', l1', c1', a2', l2', c2', rfl, hb, x0, x1, x2, x3, x4, hval⟩ := HK3.out.get hy
        have y0 := (HC.out.cell (p := ⟨b, o + i * 5, none⟩) hb).trans x0
        have y1 := (HC.out.cell (p := ⟨b, o + i * 5 + 1, none⟩) hb).trans x1
        have y2 := (HC.out.cell (p := ⟨b, o + i * 5 + 2, none⟩) hb).trans x2
        have y3 := (HC.out.cell (p := ⟨b, o + i * 5 + 3, none⟩) hb).trans x3
        have y4 := (HC.out.cell (p := ⟨b, o + i * 5 + 4, none⟩) hb).trans x4
        have hbw := Nat.lt_of_lt_of_le hb HC.out.size
        have hval' : ValAt w3 d (.agg #[.int .i64 k', .int .i64 n', .string s', .slice a1' l1' c1', .slice a2' l2' c2']) y := hval
        have c1 : Below w3.heap.size w3 (wr.alloc (.cells #[.int .i64 k', .int .i64 n', .string s', .slice a1' l1' c1', .slice a2' l2' c2'] 39)) := by have h := HC.out; have s := h.size; exact (by repeat (first | (with_reducible exact Below.refl _ _) | (with_reducible exact Below.refl _ _) | (with_reducible refine Below.setCell ?_ (by first | omega | (simp; done) | (simp; omega)) _) | (with_reducible refine Below.alloc ?_ (by first | omega | (simp; done) | (simp; omega)) _) | (with_reducible refine Below.drew ?_) | (with_reducible refine below_drewN ?_ _) | (with_reducible refine Below.trans ?_ (h.mono (by first | omega | (simp; done) | (simp; omega))))))
        have C1 := Lib.hid c1
        have P1 := Lib.hid (HP.out.alloc (.cells #[.int .i64 k', .int .i64 n', .string s', .slice a1' l1' c1', .slice a2' l2' c2'] 39))
        have Y1 := Lib.hid (Blk.new wr [.int .i64 k', .int .i64 n', .string s', .slice a1' l1' c1', .slice a2' l2' c2'] 39)
        have HVL := Lib.hid hval'
        have HRY := Lib.hid hry
        have HAI := Lib.hid (fun W (hb : Below w3.heap.size w3 W) => by have q := HAT.out W (i : Int) hb; rw [if_pos (by omega), Int.toNat_natCast, hy] at q; exact q)
        clear hval hval' hry hy x0 x1 x2 x3 x4 hb c1
        go_wp2_with fail
        refine (HAI.out _ C1.out).mono ?_; rintro e' w5 ⟨⟨u, rfl, hu⟩, hb5⟩
        obtain ⟨u, rfl, hu5⟩ := (show ∃ u', u = .tuple #[u', .bool true] ∧ ValAt w3 d u' y from hu)
        obtain ⟨k5, n5, s5, a5, l5, c5, e5, f5, h5, rfl⟩ := hu5.agg
        have C5 := Lib.hid (C1.out.trans (hb5.mono C1.out.size))
        have P5 := Lib.hid (P1.out.ext hb5)
        have Y5 := Lib.hid (Y1.out.ext hb5)
        have HU5 := Lib.hid hu5
        have q5 := Y5.out.cells
        have lq5 := Y5.out.lt
        clear hu hu5 hb5 C1 P1 Y1 HAI y0 y1 y2 y3 y4 hbw q3 l3
        go_wp2_with fail
        have c6 : Below w3.heap.size w3 (w5.alloc (.cells #[.int .i64 k5, .int .i64 n5, .string s5, .slice a5 l5 c5, .slice e5 f5 h5] 39)) := by have h := C5.out; have s := h.size; exact (by repeat (first | (with_reducible exact Below.refl _ _) | (with_reducible exact Below.refl _ _) | (with_reducible refine Below.setCell ?_ (by first | omega | (simp; done) | (simp; omega)) _) | (with_reducible refine Below.alloc ?_ (by first | omega | (simp; done) | (simp; omega)) _) | (with_reducible refine Below.drew ?_) | (with_reducible refine below_drewN ?_ _) | (with_reducible refine Below.trans ?_ (h.mono (by first | omega | (simp; done) | (simp; omega))))))
        refine (HSM.out _ y _ _ c6 HU5.out HVL.out HRY.out).mono ?_; rintro e' w6 ⟨rfl, hb6⟩
        have C6 := Lib.hid (c6.trans (hb6.mono c6.size))
        have P6 := Lib.hid ((P5.out.alloc (.cells #[.int .i64 k5, .int .i64 n5, .string s5, .slice a5 l5 c5, .slice e5 f5 h5] 39)).ext hb6)
        clear hb6 c6 C5 P5 Y5 HU5 HVL HRY q5 lq5
        go_wp2_with fail
        go_roundw
        case rel => exact ⟨i + 1, by omega, by go_num, P6.out, C6.out⟩
        case measure => simp [intOf]; omega
      · have g1 : ¬ (i : Int) < (m : Int) := by omega
        have HA1 := Lib.hid (fun W (hb : Below w3.heap.size w3 W) => by have q := HAT.out W (-1) hb; rw [if_neg (by omega)] at q; exact q)
        have HA2 := Lib.hid (fun W (hb : Below w3.heap.size w3 W) => by have q := HAT.out W (m : Int) hb; rw [if_pos (by omega), Int.toNat_natCast, List.getElem?_eq_none (by rw [List.length_map, HML.out]; exact Nat.le_refl _)] at q; exact q)
        clear HAT HSM HKR HK3
        go_wp2_with fail
        refine (HA1.out _ HC.out).mono ?_; rintro e' w5 ⟨⟨u, rfl, hu⟩, hb5⟩
        obtain rfl := (show u = .tuple #[.agg zeroL.toArray, .bool false] from hu)
        simp only [zeroL]
        have c5 := HC.out.trans (hb5.mono HC.out.size)
        have p5 := HP.out.ext hb5
        have C5 := Lib.hid (show Below w3.heap.size w3 (w5.alloc (.cells #[.int .i64 0, .int .i64 0, .string ⟨#[]⟩, .slice none 0 0, .slice none 0 0] 39)) from by have h := c5; have s := h.size; exact (by repeat (first | (with_reducible exact Below.refl _ _) | (with_reducible exact Below.refl _ _) | (with_reducible refine Below.setCell ?_ (by first | omega | (simp; done) | (simp; omega)) _) | (with_reducible refine Below.alloc ?_ (by first | omega | (simp; done) | (simp; omega)) _) | (with_reducible refine Below.drew ?_) | (with_reducible refine below_drewN ?_ _) | (with_reducible refine Below.trans ?_ (h.mono (by first | omega | (simp; done) | (simp; omega)))))))
        have P5 := Lib.hid (p5.alloc (.cells #[.int .i64 0, .int .i64 0, .string ⟨#[]⟩, .slice none 0 0, .slice none 0 0] 39))
        have q5 := p5.cells
        have l5 := p5.lt
        clear hu hb5 c5 p5 HP HC q3 l3 HA1
        go_wp2_with fail
        refine (HA2.out _ C5.out).mono ?_; rintro e' w6 ⟨⟨u, rfl, hu⟩, hb6⟩
        obtain rfl := (show u = .tuple #[.agg zeroL.toArray, .bool false] from hu)
        simp only [zeroL]
        have c6 := C5.out.trans (hb6.mono C5.out.size)
        have p6 := P5.out.ext hb6
        have C6 := Lib.hid (show Below w3.heap.size w3 (w6.alloc (.cells #[.int .i64 0, .int .i64 0, .string ⟨#[]⟩, .slice none 0 0, .slice none 0 0] 39)) from by have h := c6; have s := h.size; exact (by repeat (first | (with_reducible exact Below.refl _ _) | (with_reducible exact Below.refl _ _) | (with_reducible refine Below.setCell ?_ (by first | omega | (simp; done) | (simp; omega)) _) | (with_reducible refine Below.alloc ?_ (by first | omega | (simp; done) | (simp; omega)) _) | (with_reducible refine Below.drew ?_) | (with_reducible refine below_drewN ?_ _) | (with_reducible refine Below.trans ?_ (h.mono (by first | omega | (simp; done) | (simp; omega)))))))
        have P6 := Lib.hid (p6.alloc (.cells #[.int .i64 0, .int .i64 0, .string ⟨#[]⟩, .slice none 0 0, .slice none 0 0] 39))
        have q6 := p6.cells
        have l6 := p6.lt
        clear hu hb6 c6 p6 P5 C5 q5 l5 HA2
        go_wp2_with fail
        have b7 : Below w3.heap.size w3 ((w6.alloc (.cells #[.int .i64 0, .int .i64 0, .string ⟨#[]⟩, .slice none 0 0, .slice none 0 0] 39)).alloc (.cells #[.int .i64 k1, .int .i64 n1, .string s1, .slice a1 l1 c1, .slice a2 l2 c2] 39)) := by have h := C6.out; exact Below.alloc h h.size _
        have B7 := Lib.hid b7
        (with_reducible refine (HLW.out _ (w6.heap.size + 1) B7.out (Blk.new' _ _ _ (by simp))).mono ?_); rintro e' w7 ⟨⟨v2, rfl, hv2⟩, hb7⟩
        have C7 := Lib.hid (b7.trans (hb7.mono b7.size))
        have P7 := Lib.hid ((P6.out.alloc (.cells #[.int .i64 k1, .int .i64 n1, .string s1, .slice a1 l1 c1, .slice a2 l2 c2] 39)).ext hb7)
        have HV2 := Lib.hid hv2
        have q7 := P7.out.cells
        have l7 := P7.out.lt
        clear hb7 b7 C6 P6 q6 l6 HLW B7
        cases r2 with
        | true =>
          rw [show ∀ v, wholeV true v = .tuple #[v, .int .i64 0] from fun v => rfl]
          obtain ⟨k8, n8, s8, a8, l8, c8, e8, f8, h8, rfl⟩ := hv2.agg
          have hdn := HR2.out.symm
          rw [Bool.and_eq_true, decide_eq_true_eq, decide_eq_true_eq] at hdn
          have u1 : (D : Int) < 8 := by omega
          have u2 : (N : Int) < 256 := by omega
          have u3 : decide ((D : Int) < 8) = true := decide_eq_true u1
          have u4 : decide ((N : Int) < 256) = true := decide_eq_true u2
          have u5 : IntKind.i64.wrap ((D : Int) + 1) = (D : Int) + 1 := IntWalk.i64_in _ (by omega)
          have u6 : (((D + 1 : Nat) : Int)) = (D : Int) + 1 := by omega
          have d1 : decide (D < 8) = true := decide_eq_true hdn.1
          have d2 : decide (N < 256) = true := decide_eq_true hdn.2
          have V8 := Lib.hid (show Below w3.heap.size w3 (w7.alloc (.cells #[.int .i64 k8, .int .i64 n8, .string s8, .slice a8 l8 c8, .slice e8 f8 h8] 39)) from by have h := C7.out; have s := h.size; exact (by repeat (first | (with_reducible exact Below.refl _ _) | (with_reducible exact Below.refl _ _) | (with_reducible refine Below.setCell ?_ (by first | omega | (simp; done) | (simp; omega)) _) | (with_reducible refine Below.alloc ?_ (by first | omega | (simp; done) | (simp; omega)) _) | (with_reducible refine Below.drew ?_) | (with_reducible refine below_drewN ?_ _) | (with_reducible refine Below.trans ?_ (h.mono (by first | omega | (simp; done) | (simp; omega)))))))
          have b8 := Lib.hid (show Below w7.heap.size w7 (w7.alloc (.cells #[.int .i64 k8, .int .i64 n8, .string s8, .slice a8 l8 c8, .slice e8 f8 h8] 39)) from (by repeat (first | (with_reducible exact Below.refl _ _) | (with_reducible exact Below.refl _ _) | (with_reducible refine Below.setCell ?_ (by first | omega | (simp; done) | (simp; omega)) _) | (with_reducible refine Below.alloc ?_ (by first | omega | (simp; done) | (simp; omega)) _) | (with_reducible refine Below.drew ?_) | (with_reducible refine below_drewN ?_ _))))
          clear hv2 hdn
          go_wp2_with fail
          refine' wp_region_seq [(Sum.inl _ : Piece), (Sum.inl _ : Piece), (Sum.inl _ : Piece), (Sum.inl _ : Piece), (Sum.inl _ : Piece), (Sum.inl _ : Piece), (Sum.inl _ : Piece), (Sum.inl _ : Piece), (Sum.inl _ : Piece), (Sum.inl _ : Piece), (Sum.inl _ : Piece), (Sum.inl _ : Piece), (Sum.inl _ : Piece), (Sum.inl _ : Piece), (Sum.inl _ : Piece), (Sum.inl _ : Piece), (Sum.inl _ : Piece), (Sum.inl _ : Piece), (Sum.inl _ : Piece), (Sum.inl _ : Piece), (Sum.inl _ : Piece), (Sum.inl _ : Piece), (Sum.inl _ : Piece), (Sum.inl _ : Piece), (Sum.inl _ : Piece), (Sum.inl _ : Piece), (Sum.inl _ : Piece), (Sum.inl _ : Piece), (Sum.inl _ : Piece), (Sum.inl _ : Piece), (Sum.inl _ : Piece), (Sum.inl _ : Piece)] (by kernel_rfl) (by kernel_rfl) ?main1
          case main1 =>
            refine wpParts_det (by rfl) (fun W hE hN => ?_) ?_
            · go_simp; refine ⟨Below.refl _ _, ?_⟩; rfl
            simp only [Act.put, List.setIfInBounds_toArray, List.set_cons_zero, List.set_cons_succ]
            refine wpParts_det (by rfl) (fun W hE hN => ?_) ?_
            · go_simp; refine ⟨Below.refl _ _, ?_⟩; rfl
            simp only [Act.put, List.setIfInBounds_toArray, List.set_cons_zero, List.set_cons_succ]
            refine wpParts_det (by rfl) (fun W hE hN => ?_) ?_
            · go_simp; refine ⟨Below.refl _ _, ?_⟩; rfl
            simp only [Act.put, List.setIfInBounds_toArray, List.set_cons_zero, List.set_cons_succ]
            refine wpParts_det (by rfl) (fun W hE hN => ?_) ?_
            · go_simp; refine ⟨Below.refl _ _, ?_⟩; rfl
            simp only [Act.put, List.setIfInBounds_toArray, List.set_cons_zero, List.set_cons_succ]
            refine wpParts_det (by rfl) (fun W hE hN => ?_) ?_
            · go_simp; refine ⟨Below.refl _ _, ?_⟩; rfl
            simp only [Act.put, List.setIfInBounds_toArray, List.set_cons_zero, List.set_cons_succ]
            refine wpParts_det (by rfl) (fun W hE hN => ?_) ?_
            · go_simp; refine ⟨Below.refl _ _, ?_⟩; rfl
            simp only [Act.put, List.setIfInBounds_toArray, List.set_cons_zero, List.set_cons_succ]
            refine wpParts_det (by rfl) (fun W hE hN => ?_) ?_
            · go_simp; refine ⟨Below.refl _ _, ?_⟩; rfl
            simp only [Act.put, List.setIfInBounds_toArray, List.set_cons_zero, List.set_cons_succ]
            refine wpParts_det (by rfl) (fun W hE hN => ?_) ?_
            · go_simp; refine ⟨Below.refl _ _, ?_⟩; rfl
            simp only [Act.put, List.setIfInBounds_toArray, List.set_cons_zero, List.set_cons_succ]
            refine wpParts_det (by rfl) (fun W hE hN => ?_) ?_
            · go_simp; refine ⟨Below.refl _ _, ?_⟩; rfl
            simp only [Act.put, List.setIfInBounds_toArray, List.set_cons_zero, List.set_cons_succ]
            refine wpParts_det (by rfl) (fun W hE hN => ?_) ?_
            · have hc := fun b o h => hE.cell (p := ⟨b, o, none⟩) h
              go_simp; refine ⟨Below.refl _ _, ?_⟩; rfl
            simp only [Act.put, List.setIfInBounds_toArray, List.set_cons_zero, List.set_cons_succ]
            refine wpParts_det (by rfl) (fun W hE hN => ?_) ?_
            · go_simp; refine ⟨Below.refl _ _, ?_⟩; refine (HDP.out W (V8.out.trans (hE.mono V8.out.size))).mono ?_; rintro e' w' ⟨rfl, hb⟩; refine ⟨?_, hb⟩; rfl
            simp only [Act.put, List.setIfInBounds_toArray, List.set_cons_zero, List.set_cons_succ]
            refine wpParts_det (by rfl) (fun W hE hN => ?_) ?_
            · go_simp; refine ⟨Below.refl _ _, ?_⟩; rfl
            simp only [Act.put, List.setIfInBounds_toArray, List.set_cons_zero, List.set_cons_succ]
            refine wpParts_det (by rfl) (fun W hE hN => ?_) ?_
            · go_simp; refine ⟨Below.refl _ _, ?_⟩; rfl
            simp only [Act.put, List.setIfInBounds_toArray, List.set_cons_zero, List.set_cons_succ]
            refine wpParts_det (by rfl) (fun W hE hN => ?_) ?_
            · have hc := fun b o h => hE.cell (p := ⟨b, o, none⟩) h
              go_simp; refine ⟨Below.refl _ _, ?_⟩; rfl
            simp only [Act.put, List.setIfInBounds_toArray, List.set_cons_zero, List.set_cons_succ]
            refine wpParts_det (by rfl) (fun W hE hN => ?_) ?_
            · go_simp; refine ⟨Below.refl _ _, ?_⟩; refine (HND.out W (V8.out.trans (hE.mono V8.out.size))).mono ?_; rintro e' w' ⟨rfl, hb⟩; refine ⟨?_, hb⟩; rfl
            simp only [Act.put, List.setIfInBounds_toArray, List.set_cons_zero, List.set_cons_succ]
            refine wpParts_det (by rfl) (fun W hE hN => ?_) ?_
            · go_simp; refine ⟨Below.refl _ _, ?_⟩; rfl
            simp only [Act.put, List.setIfInBounds_toArray, List.set_cons_zero, List.set_cons_succ]
            refine wpParts_det (by rfl) (fun W hE hN => ?_) ?_
            · go_simp; refine ⟨Below.refl _ _, ?_⟩; rfl
            simp only [Act.put, List.setIfInBounds_toArray, List.set_cons_zero, List.set_cons_succ]
            refine wpParts_det (by rfl) (fun W hE hN => ?_) ?_
            · go_simp; refine ⟨Below.refl _ _, ?_⟩; rfl
            simp only [Act.put, List.setIfInBounds_toArray, List.set_cons_zero, List.set_cons_succ]
            refine wpParts_det (by rfl) (fun W hE hN => ?_) ?_
            · go_simp; refine ⟨Below.refl _ _, ?_⟩; rfl
            simp only [Act.put, List.setIfInBounds_toArray, List.set_cons_zero, List.set_cons_succ]
            refine wpParts_det (by rfl) (fun W hE hN => ?_) ?_
            · go_simp; refine ⟨Below.refl _ _, ?_⟩; rfl
            simp only [Act.put, List.setIfInBounds_toArray, List.set_cons_zero, List.set_cons_succ]
            refine wpParts_det (by rfl) (fun W hE hN => ?_) ?_
            · go_simp; refine ⟨Below.refl _ _, ?_⟩; rfl
            simp only [Act.put, List.setIfInBounds_toArray, List.set_cons_zero, List.set_cons_succ]
            refine wpParts_det (by rfl) (fun W hE hN => ?_) ?_
            · go_simp; refine ⟨Below.refl _ _, ?_⟩; rfl
            simp only [Act.put, List.setIfInBounds_toArray, List.set_cons_zero, List.set_cons_succ]
            refine wpParts_det (by rfl) (fun W hE hN => ?_) ?_
            · go_simp; refine ⟨Below.refl _ _, ?_⟩; rfl
            simp only [Act.put, List.setIfInBounds_toArray, List.set_cons_zero, List.set_cons_succ]
            refine wpParts_det (by rfl) (fun W hE hN => ?_) ?_
            · have hc := fun b o h => hE.cell (p := ⟨b, o, none⟩) h
              go_simp; refine ⟨Below.refl _ _, ?_⟩; rfl
            simp only [Act.put, List.setIfInBounds_toArray, List.set_cons_zero, List.set_cons_succ]
            refine wpParts_det (by rfl) (fun W hE hN => ?_) ?_
            · go_simp; refine ⟨Below.refl _ _, ?_⟩; refine (HDW.out w7 W _ (V8.out.trans (hE.mono V8.out.size)) HV2.out (b8.out.trans (hE.mono b8.out.size)) (by first | trivial | rfl)).mono ?_; rintro e' w' ⟨rfl, hb⟩; refine ⟨?_, hb⟩; rw [u6]
            simp only [Act.put, List.setIfInBounds_toArray, List.set_cons_zero, List.set_cons_succ]
            refine wpParts_det (by rfl) (fun W hE hN => ?_) ?_
            · have hc := fun b o h => hE.cell (p := ⟨b, o, none⟩) h
              go_simp; refine ⟨Below.refl _ _, ?_⟩; rfl
            simp only [Act.put, List.setIfInBounds_toArray, List.set_cons_zero, List.set_cons_succ]
            refine wpParts_det (by rfl) (fun W hE hN => ?_) ?_
            · go_simp; refine ⟨Below.refl _ _, ?_⟩; refine (HDP.out W (V8.out.trans (hE.mono V8.out.size))).mono ?_; rintro e' w' ⟨rfl, hb⟩; refine ⟨?_, hb⟩; rfl
            simp only [Act.put, List.setIfInBounds_toArray, List.set_cons_zero, List.set_cons_succ]
            refine wpParts_det (by rfl) (fun W hE hN => ?_) ?_
            · go_simp; refine ⟨Below.refl _ _, ?_⟩; rfl
            simp only [Act.put, List.setIfInBounds_toArray, List.set_cons_zero, List.set_cons_succ]
            refine wpParts_det (by rfl) (fun W hE hN => ?_) ?_
            · go_simp; refine ⟨Below.refl _ _, ?_⟩; rfl
            simp only [Act.put, List.setIfInBounds_toArray, List.set_cons_zero, List.set_cons_succ]
            refine wpParts_det (by rfl) (fun W hE hN => ?_) ?_
            · go_simp; refine ⟨Below.refl _ _, ?_⟩; rfl
            simp only [Act.put, List.setIfInBounds_toArray, List.set_cons_zero, List.set_cons_succ]
            refine wpParts_det (by rfl) (fun W hE hN => ?_) ?_
            · go_simp; refine ⟨Below.refl _ _, ?_⟩; rfl
            simp only [Act.put, List.setIfInBounds_toArray, List.set_cons_zero, List.set_cons_succ]
            refine wpParts_det (by rfl) (fun W hE hN => ?_) ?_
            · go_simp; refine ⟨Below.refl _ _, ?_⟩; rfl
            simp only [Act.put, List.setIfInBounds_toArray, List.set_cons_zero, List.set_cons_succ]
            refine wpParts_end fun W9 hE9 hG9 => ?_
            have hcW9 := fun b o h => hE9.cell (p := ⟨b, o, none⟩) h
            have hfW9 := fun b o h => hE9.frozen (p := ⟨b, o, none⟩) h
            go_wp2
            go_ret
            exact ⟨rfl, B3.out.trans ((V8.out.trans (hE9.mono V8.out.size)).mono B3.out.size)⟩
        | false =>
          rw [show ∀ v, wholeV false v = .tuple #[.agg #[.int .i64 0, .int .i64 0, .string ⟨#[]⟩, .slice none 0 0, .slice none 0 0], .int .i64 140] from fun v => rfl]
          have V8 := Lib.hid (show Below w3.heap.size w3 (w7.alloc (.cells #[.int .i64 0, .int .i64 0, .string ⟨#[]⟩, .slice none 0 0, .slice none 0 0] 39)) from by have h := C7.out; have s := h.size; exact (by repeat (first | (with_reducible exact Below.refl _ _) | (with_reducible exact Below.refl _ _) | (with_reducible refine Below.setCell ?_ (by first | omega | (simp; done) | (simp; omega)) _) | (with_reducible refine Below.alloc ?_ (by first | omega | (simp; done) | (simp; omega)) _) | (with_reducible refine Below.drew ?_) | (with_reducible refine below_drewN ?_ _) | (with_reducible refine Below.trans ?_ (h.mono (by first | omega | (simp; done) | (simp; omega)))))))
          clear hv2
          by_cases h1 : D < 8
          · have h2 : ¬ N < 256 := fun h => by have := HR2.out; rw [decide_eq_true h1, decide_eq_true h] at this; cases this
            have u1 : (D : Int) < 8 := by omega
            have u2 : ¬ (N : Int) < 256 := by omega
            have u3 : decide ((D : Int) < 8) = true := decide_eq_true u1
            have u4 : decide ((N : Int) < 256) = false := decide_eq_false u2
            have d1 : decide (D < 8) = true := decide_eq_true h1
            have d2 : decide (N < 256) = false := decide_eq_false h2
            go_wp2_with fail
            refine' wp_region_seq [(Sum.inl _ : Piece), (Sum.inl _ : Piece), (Sum.inl _ : Piece), (Sum.inl _ : Piece), (Sum.inl _ : Piece), (Sum.inl _ : Piece), (Sum.inl _ : Piece), (Sum.inl _ : Piece), (Sum.inl _ : Piece), (Sum.inl _ : Piece), (Sum.inl _ : Piece), (Sum.inl _ : Piece), (Sum.inl _ : Piece), (Sum.inl _ : Piece), (Sum.inl _ : Piece), (Sum.inl _ : Piece), (Sum.inl _ : Piece), (Sum.inl _ : Piece), (Sum.inl _ : Piece), (Sum.inl _ : Piece), (Sum.inl _ : Piece), (Sum.inl _ : Piece), (Sum.inl _ : Piece), (Sum.inl undef : Piece), (Sum.inl undef : Piece), (Sum.inl undef : Piece), (Sum.inl undef : Piece), (Sum.inl undef : Piece), (Sum.inl undef : Piece), (Sum.inl _ : Piece), (Sum.inl _ : Piece), (Sum.inl _ : Piece)] (by kernel_rfl) (by kernel_rfl) ?main2
            case main2 =>
              refine wpParts_det (by rfl) (fun W hE hN => ?_) ?_
              · go_simp; refine ⟨Below.refl _ _, ?_⟩; rfl
              simp only [Act.put, List.setIfInBounds_toArray, List.set_cons_zero, List.set_cons_succ]
              refine wpParts_det (by rfl) (fun W hE hN => ?_) ?_
              · go_simp; refine ⟨Below.refl _ _, ?_⟩; rfl
              simp only [Act.put, List.setIfInBounds_toArray, List.set_cons_zero, List.set_cons_succ]
              refine wpParts_det (by rfl) (fun W hE hN => ?_) ?_
              · go_simp; refine ⟨Below.refl _ _, ?_⟩; rfl
              simp only [Act.put, List.setIfInBounds_toArray, List.set_cons_zero, List.set_cons_succ]
              refine wpParts_det (by rfl) (fun W hE hN => ?_) ?_
              · go_simp; refine ⟨Below.refl _ _, ?_⟩; rfl
              simp only [Act.put, List.setIfInBounds_toArray, List.set_cons_zero, List.set_cons_succ]
              refine wpParts_det (by rfl) (fun W hE hN => ?_) ?_
              · go_simp; refine ⟨Below.refl _ _, ?_⟩; rfl
              simp only [Act.put, List.setIfInBounds_toArray, List.set_cons_zero, List.set_cons_succ]
              refine wpParts_det (by rfl) (fun W hE hN => ?_) ?_
              · go_simp; refine ⟨Below.refl _ _, ?_⟩; rfl
              simp only [Act.put, List.setIfInBounds_toArray, List.set_cons_zero, List.set_cons_succ]
              refine wpParts_det (by rfl) (fun W hE hN => ?_) ?_
              · go_simp; refine ⟨Below.refl _ _, ?_⟩; rfl
              simp only [Act.put, List.setIfInBounds_toArray, List.set_cons_zero, List.set_cons_succ]
              refine wpParts_det (by rfl) (fun W hE hN => ?_) ?_
              · go_simp; refine ⟨Below.refl _ _, ?_⟩; rfl
              simp only [Act.put, List.setIfInBounds_toArray, List.set_cons_zero, List.set_cons_succ]
              refine wpParts_det (by rfl) (fun W hE hN => ?_) ?_
              · go_simp; refine ⟨Below.refl _ _, ?_⟩; rfl
              simp only [Act.put, List.setIfInBounds_toArray, List.set_cons_zero, List.set_cons_succ]
              refine wpParts_det (by rfl) (fun W hE hN => ?_) ?_
              · have hc := fun b o h => hE.cell (p := ⟨b, o, none⟩) h
                go_simp; refine ⟨Below.refl _ _, ?_⟩; rfl
              simp only [Act.put, List.setIfInBounds_toArray, List.set_cons_zero, List.set_cons_succ]
              refine wpParts_det (by rfl) (fun W hE hN => ?_) ?_
              · go_simp; refine ⟨Below.refl _ _, ?_⟩; refine (HDP.out W (V8.out.trans (hE.mono V8.out.size))).mono ?_; rintro e' w' ⟨rfl, hb⟩; refine ⟨?_, hb⟩; rfl
              simp only [Act.put, List.setIfInBounds_toArray, List.set_cons_zero, List.set_cons_succ]
              refine wpParts_det (by rfl) (fun W hE hN => ?_) ?_
              · go_simp; refine ⟨Below.refl _ _, ?_⟩; rfl
              simp only [Act.put, List.setIfInBounds_toArray, List.set_cons_zero, List.set_cons_succ]
              refine wpParts_det (by rfl) (fun W hE hN => ?_) ?_
              · go_simp; refine ⟨Below.refl _ _, ?_⟩; rfl
              simp only [Act.put, List.setIfInBounds_toArray, List.set_cons_zero, List.set_cons_succ]
              refine wpParts_det (by rfl) (fun W hE hN => ?_) ?_
              · have hc := fun b o h => hE.cell (p := ⟨b, o, none⟩) h
                go_simp; refine ⟨Below.refl _ _, ?_⟩; rfl
              simp only [Act.put, List.setIfInBounds_toArray, List.set_cons_zero, List.set_cons_succ]
              refine wpParts_det (by rfl) (fun W hE hN => ?_) ?_
              · go_simp; refine ⟨Below.refl _ _, ?_⟩; refine (HND.out W (V8.out.trans (hE.mono V8.out.size))).mono ?_; rintro e' w' ⟨rfl, hb⟩; refine ⟨?_, hb⟩; rfl
              simp only [Act.put, List.setIfInBounds_toArray, List.set_cons_zero, List.set_cons_succ]
              refine wpParts_det (by rfl) (fun W hE hN => ?_) ?_
              · go_simp; refine ⟨Below.refl _ _, ?_⟩; rfl
              simp only [Act.put, List.setIfInBounds_toArray, List.set_cons_zero, List.set_cons_succ]
              refine wpParts_det (by rfl) (fun W hE hN => ?_) ?_
              · go_simp; refine ⟨Below.refl _ _, ?_⟩; rfl
              simp only [Act.put, List.setIfInBounds_toArray, List.set_cons_zero, List.set_cons_succ]
              refine wpParts_det (by rfl) (fun W hE hN => ?_) ?_
              · go_simp; refine ⟨Below.refl _ _, ?_⟩; rfl
              simp only [Act.put, List.setIfInBounds_toArray, List.set_cons_zero, List.set_cons_succ]
              refine wpParts_det (by rfl) (fun W hE hN => ?_) ?_
              · go_simp; refine ⟨Below.refl _ _, ?_⟩; rfl
              simp only [Act.put, List.setIfInBounds_toArray, List.set_cons_zero, List.set_cons_succ]
              refine wpParts_det (by rfl) (fun W hE hN => ?_) ?_
              · go_simp; refine ⟨Below.refl _ _, ?_⟩; rfl
              simp only [Act.put, List.setIfInBounds_toArray, List.set_cons_zero, List.set_cons_succ]
              refine wpParts_det (by rfl) (fun W hE hN => ?_) ?_
              · go_simp; refine ⟨Below.refl _ _, ?_⟩; rfl
              simp only [Act.put, List.setIfInBounds_toArray, List.set_cons_zero, List.set_cons_succ]
              refine wpParts_det (by rfl) (fun W hE hN => ?_) ?_
              · go_simp; refine ⟨Below.refl _ _, ?_⟩; rfl
              simp only [Act.put, List.setIfInBounds_toArray, List.set_cons_zero, List.set_cons_succ]
              refine wpParts_det (by rfl) (fun W hE hN => ?_) ?_
              · go_simp; refine ⟨Below.refl _ _, ?_⟩; rfl
              simp only [Act.put, List.setIfInBounds_toArray, List.set_cons_zero, List.set_cons_succ]
              refine wpParts_skip ?_ ?_
              · rfl
              simp only [Act.put, List.setIfInBounds_toArray, List.set_cons_zero, List.set_cons_succ]
              refine wpParts_skip ?_ ?_
              · rfl
              simp only [Act.put, List.setIfInBounds_toArray, List.set_cons_zero, List.set_cons_succ]
              refine wpParts_skip ?_ ?_
              · rfl
              simp only [Act.put, List.setIfInBounds_toArray, List.set_cons_zero, List.set_cons_succ]
              refine wpParts_skip ?_ ?_
              · rfl
              simp only [Act.put, List.setIfInBounds_toArray, List.set_cons_zero, List.set_cons_succ]
              refine wpParts_skip ?_ ?_
              · rfl
              simp only [Act.put, List.setIfInBounds_toArray, List.set_cons_zero, List.set_cons_succ]
              refine wpParts_skip ?_ ?_
              · rfl
              simp only [Act.put, List.setIfInBounds_toArray, List.set_cons_zero, List.set_cons_succ]
              refine wpParts_det (by rfl) (fun W hE hN => ?_) ?_
              · go_simp; refine ⟨Below.refl _ _, ?_⟩; rfl
              simp only [Act.put, List.setIfInBounds_toArray, List.set_cons_zero, List.set_cons_succ]
              refine wpParts_det (by rfl) (fun W hE hN => ?_) ?_
              · go_simp; refine ⟨Below.refl _ _, ?_⟩; rfl
              simp only [Act.put, List.setIfInBounds_toArray, List.set_cons_zero, List.set_cons_succ]
              refine wpParts_det (by rfl) (fun W hE hN => ?_) ?_
              · go_simp; refine ⟨Below.refl _ _, ?_⟩; rfl
              simp only [Act.put, List.setIfInBounds_toArray, List.set_cons_zero, List.set_cons_succ]
              refine wpParts_end fun W9 hE9 hG9 => ?_
              have hcW9 := fun b o h => hE9.cell (p := ⟨b, o, none⟩) h
              have hfW9 := fun b o h => hE9.frozen (p := ⟨b, o, none⟩) h
              go_wp2
              go_ret
              exact ⟨rfl, B3.out.trans ((V8.out.trans (hE9.mono V8.out.size)).mono B3.out.size)⟩
          · have u1 : ¬ (D : Int) < 8 := by omega
            have u3 : decide ((D : Int) < 8) = false := decide_eq_false u1
            have d1 : decide (D < 8) = false := decide_eq_false h1
            go_wp2_with fail
            refine' wp_region_seq [(Sum.inl _ : Piece), (Sum.inl _ : Piece), (Sum.inl _ : Piece), (Sum.inl _ : Piece), (Sum.inl _ : Piece), (Sum.inl _ : Piece), (Sum.inl _ : Piece), (Sum.inl _ : Piece), (Sum.inl _ : Piece), (Sum.inl _ : Piece), (Sum.inl _ : Piece), (Sum.inl _ : Piece), (Sum.inl _ : Piece), (Sum.inl undef : Piece), (Sum.inl undef : Piece), (Sum.inl undef : Piece), (Sum.inl _ : Piece), (Sum.inl _ : Piece), (Sum.inl _ : Piece), (Sum.inl _ : Piece), (Sum.inl _ : Piece), (Sum.inl _ : Piece), (Sum.inl _ : Piece), (Sum.inl undef : Piece), (Sum.inl undef : Piece), (Sum.inl undef : Piece), (Sum.inl undef : Piece), (Sum.inl undef : Piece), (Sum.inl undef : Piece), (Sum.inl _ : Piece), (Sum.inl _ : Piece), (Sum.inl _ : Piece)] (by kernel_rfl) (by kernel_rfl) ?main3
            case main3 =>
              refine wpParts_det (by rfl) (fun W hE hN => ?_) ?_
              · go_simp; refine ⟨Below.refl _ _, ?_⟩; rfl
              simp only [Act.put, List.setIfInBounds_toArray, List.set_cons_zero, List.set_cons_succ]
              refine wpParts_det (by rfl) (fun W hE hN => ?_) ?_
              · go_simp; refine ⟨Below.refl _ _, ?_⟩; rfl
              simp only [Act.put, List.setIfInBounds_toArray, List.set_cons_zero, List.set_cons_succ]
              refine wpParts_det (by rfl) (fun W hE hN => ?_) ?_
              · go_simp; refine ⟨Below.refl _ _, ?_⟩; rfl
              simp only [Act.put, List.setIfInBounds_toArray, List.set_cons_zero, List.set_cons_succ]
              refine wpParts_det (by rfl) (fun W hE hN => ?_) ?_
              · go_simp; refine ⟨Below.refl _ _, ?_⟩; rfl
              simp only [Act.put, List.setIfInBounds_toArray, List.set_cons_zero, List.set_cons_succ]
              refine wpParts_det (by rfl) (fun W hE hN => ?_) ?_
              · go_simp; refine ⟨Below.refl _ _, ?_⟩; rfl
              simp only [Act.put, List.setIfInBounds_toArray, List.set_cons_zero, List.set_cons_succ]
              refine wpParts_det (by rfl) (fun W hE hN => ?_) ?_
              · go_simp; refine ⟨Below.refl _ _, ?_⟩; rfl
              simp only [Act.put, List.setIfInBounds_toArray, List.set_cons_zero, List.set_cons_succ]
              refine wpParts_det (by rfl) (fun W hE hN => ?_) ?_
              · go_simp; refine ⟨Below.refl _ _, ?_⟩; rfl
              simp only [Act.put, List.setIfInBounds_toArray, List.set_cons_zero, List.set_cons_succ]
              refine wpParts_det (by rfl) (fun W hE hN => ?_) ?_
              · go_simp; refine ⟨Below.refl _ _, ?_⟩; rfl
              simp only [Act.put, List.setIfInBounds_toArray, List.set_cons_zero, List.set_cons_succ]
              refine wpParts_det (by rfl) (fun W hE hN => ?_) ?_
              · go_simp; refine ⟨Below.refl _ _, ?_⟩; rfl
              simp only [Act.put, List.setIfInBounds_toArray, List.set_cons_zero, List.set_cons_succ]
              refine wpParts_det (by rfl) (fun W hE hN => ?_) ?_
              · have hc := fun b o h => hE.cell (p := ⟨b, o, none⟩) h
                go_simp; refine ⟨Below.refl _ _, ?_⟩; rfl
              simp only [Act.put, List.setIfInBounds_toArray, List.set_cons_zero, List.set_cons_succ]
              refine wpParts_det (by rfl) (fun W hE hN => ?_) ?_
              · go_simp; refine ⟨Below.refl _ _, ?_⟩; refine (HDP.out W (V8.out.trans (hE.mono V8.out.size))).mono ?_; rintro e' w' ⟨rfl, hb⟩; refine ⟨?_, hb⟩; rfl
              simp only [Act.put, List.setIfInBounds_toArray, List.set_cons_zero, List.set_cons_succ]
              refine wpParts_det (by rfl) (fun W hE hN => ?_) ?_
              · go_simp; refine ⟨Below.refl _ _, ?_⟩; rfl
              simp only [Act.put, List.setIfInBounds_toArray, List.set_cons_zero, List.set_cons_succ]
              refine wpParts_det (by rfl) (fun W hE hN => ?_) ?_
              · go_simp; refine ⟨Below.refl _ _, ?_⟩; rfl
              simp only [Act.put, List.setIfInBounds_toArray, List.set_cons_zero, List.set_cons_succ]
              refine wpParts_skip ?_ ?_
              · rfl
              simp only [Act.put, List.setIfInBounds_toArray, List.set_cons_zero, List.set_cons_succ]
              refine wpParts_skip ?_ ?_
              · rfl
              simp only [Act.put, List.setIfInBounds_toArray, List.set_cons_zero, List.set_cons_succ]
              refine wpParts_skip ?_ ?_
              · rfl
              simp only [Act.put, List.setIfInBounds_toArray, List.set_cons_zero, List.set_cons_succ]
              refine wpParts_det (by rfl) (fun W hE hN => ?_) ?_
              · go_simp; refine ⟨Below.refl _ _, ?_⟩; rfl
              simp only [Act.put, List.setIfInBounds_toArray, List.set_cons_zero, List.set_cons_succ]
              refine wpParts_det (by rfl) (fun W hE hN => ?_) ?_
              · go_simp; refine ⟨Below.refl _ _, ?_⟩; rfl
              simp only [Act.put, List.setIfInBounds_toArray, List.set_cons_zero, List.set_cons_succ]
              refine wpParts_det (by rfl) (fun W hE hN => ?_) ?_
              · go_simp; refine ⟨Below.refl _ _, ?_⟩; rfl
              simp only [Act.put, List.setIfInBounds_toArray, List.set_cons_zero, List.set_cons_succ]
              refine wpParts_det (by rfl) (fun W hE hN => ?_) ?_
              · go_simp; refine ⟨Below.refl _ _, ?_⟩; rfl
              simp only [Act.put, List.setIfInBounds_toArray, List.set_cons_zero, List.set_cons_succ]
              refine wpParts_det (by rfl) (fun W hE hN => ?_) ?_
              · go_simp; refine ⟨Below.refl _ _, ?_⟩; rfl
              simp only [Act.put, List.setIfInBounds_toArray, List.set_cons_zero, List.set_cons_succ]
              refine wpParts_det (by rfl) (fun W hE hN => ?_) ?_
              · go_simp; refine ⟨Below.refl _ _, ?_⟩; rfl
              simp only [Act.put, List.setIfInBounds_toArray, List.set_cons_zero, List.set_cons_succ]
              refine wpParts_det (by rfl) (fun W hE hN => ?_) ?_
              · go_simp; refine ⟨Below.refl _ _, ?_⟩; rfl
              simp only [Act.put, List.setIfInBounds_toArray, List.set_cons_zero, List.set_cons_succ]
              refine wpParts_skip ?_ ?_
              · rfl
              simp only [Act.put, List.setIfInBounds_toArray, List.set_cons_zero, List.set_cons_succ]
              refine wpParts_skip ?_ ?_
              · rfl
              simp only [Act.put, List.setIfInBounds_toArray, List.set_cons_zero, List.set_cons_succ]
              refine wpParts_skip ?_ ?_
              · rfl
              simp only [Act.put, List.setIfInBounds_toArray, List.set_cons_zero, List.set_cons_succ]
              refine wpParts_skip ?_ ?_
              · rfl
              simp only [Act.put, List.setIfInBounds_toArray, List.set_cons_zero, List.set_cons_succ]
              refine wpParts_skip ?_ ?_
              · rfl
              simp only [Act.put, List.setIfInBounds_toArray, List.set_cons_zero, List.set_cons_succ]
              refine wpParts_skip ?_ ?_
              · rfl
              simp only [Act.put, List.setIfInBounds_toArray, List.set_cons_zero, List.set_cons_succ]
              refine wpParts_det (by rfl) (fun W hE hN => ?_) ?_
              · go_simp; refine ⟨Below.refl _ _, ?_⟩; rfl
              simp only [Act.put, List.setIfInBounds_toArray, List.set_cons_zero, List.set_cons_succ]
              refine wpParts_det (by rfl) (fun W hE hN => ?_) ?_
              · go_simp; refine ⟨Below.refl _ _, ?_⟩; rfl
              simp only [Act.put, List.setIfInBounds_toArray, List.set_cons_zero, List.set_cons_succ]
              refine wpParts_det (by rfl) (fun W hE hN => ?_) ?_
              · go_simp; refine ⟨Below.refl _ _, ?_⟩; rfl
              simp only [Act.put, List.setIfInBounds_toArray, List.set_cons_zero, List.set_cons_succ]
              refine wpParts_end fun W9 hE9 hG9 => ?_
              have hcW9 := fun b o h => hE9.cell (p := ⟨b, o, none⟩) h
              have hfW9 := fun b o h => hE9.frozen (p := ⟨b, o, none⟩) h
              go_wp2
              go_ret
              exact ⟨rfl, B3.out.trans ((V8.out.trans (hE9.mono V8.out.size)).mono B3.out.size)⟩
end Go.Proofs.YtmcmknndhppljaaDoor
