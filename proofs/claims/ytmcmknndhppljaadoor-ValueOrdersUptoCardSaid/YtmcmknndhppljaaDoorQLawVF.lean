/-
  The law ValueOrders, walked.
-/
import Derived.Test.YtmcmknndhppljaaDoorQOrdA
import Derived.Test.YtmcmknndhppljaaDoorVbM
import Derived.Test.YtmcmknndhppljaaDoorQLstB
import Derived.Test.YtmcmknndhppljaaDoorVbL
import Derived.Test.YtmcmknndhppljaaDoorQAppF
namespace Go.Proofs.YtmcmknndhppljaaDoor
set_option linter.unusedVariables false
set_option linter.unusedSimpArgs false
open Go.RowKit Go.Dav
attribute [local go_sem] Gives ite_val ite_val_true

set_option maxRecDepth 8000 in
set_option maxHeartbeats 16000000 in
theorem Tryd_ValueOrders (d : Nat) (f : PairE → ValN d) (a : Option Addr) (n c : Nat) (turn : Int) (l : List PairE) (w : World) (hl : l.length = n) (hat : FlatAt w a (flatE l)) (hnil : a = none → c = 0) (hnc : n ≤ c) (hcm : c ≤ maxLen) (hn : n ≤ 1048576) (hf : ∀ e ∈ l, ValAt w d e.agg (f e)) (hks : ∀ e ∈ l, e.key.size ≤ 17592186044416) (hN : GlobAt w 0 [.int .i64 0, .int .i64 0] 143) :
    Calls Tryd.prog 10 #[.slice a n c, .int .i64 turn] w fun e' w' => e' = .returned (.bool true) ∧ Below w.heap.size w w' := by
  have hg : ∀ W, Below w.heap.size w W → GlobAt W 0 [.int .i64 0, .int .i64 0] 143 := fun W hb => hN.ext hb
  obtain ⟨m, hm⟩ : ∃ m, min n 300 = m := ⟨_, rfl⟩
  obtain ⟨L, hL⟩ : ∃ L, l.take m = L := ⟨_, rfl⟩
  have hLl : L.length = m := by rw [← hL, List.length_take]; omega
  have hLf : FlatAt w a (flatE L) := fun j u hu => hat j u (by
    have hj := (List.getElem?_eq_some_iff.1 hu).1
    have e : flatE l = flatE L ++ flatE (l.drop m) := by rw [← hL]; unfold flatE; rw [← List.flatMap_append, List.take_append_drop]
    rw [e, List.getElem?_append_left hj]; exact hu)
  have hfL : ∀ e ∈ L, ValAt w d e.agg (f e) := fun e he => hf e (List.mem_of_mem_take (by rw [← hL] at he; exact he))
  have hkL : ∀ e ∈ L, e.key.size ≤ 17592186044416 := fun e he => hks e (List.mem_of_mem_take (by rw [← hL] at he; exact he))
  have e1 : min (n : Int) 300 = (m : Int) := by omega
  have p1 : (m : Int) ≤ 300 := by omega
  have p2 : m ≤ 300 := by omega
  have p3 : m ≤ c := by omega
  have HOB := Lib.hid (fun W (b : Option Addr) (cc : Nat) (K : List PairE) (hb : Below w.heap.size w W) (h0 : K.Perm L) (h1 : FlatAt W b (flatE K)) (h2 : b = none → cc = 0) (h3 : m ≤ cc) => by
    have q := Tryd_objOut d f b m cc K W (h0.length_eq.trans hLl) h1 h2 h3 p2 (fun e he => ValAt.ext hb d (hfL e (h0.mem_iff.1 he))) (fun e he => hkL e (h0.mem_iff.1 he)) (hg W hb)
    unfold TrydObjOut at q
    rw [(objE_perm (d := d) (f := f) h0).1, (objE_perm (d := d) (f := f) h0).2] at q
    exact q)
  have HLF := Lib.hid (fun W (hb : Below w.heap.size w W) => hLf.ext hb)
  have HLL := Lib.hid hLl
  have HG := Lib.hid hg
  have HFL := Lib.hid hfL
  have HKL := Lib.hid hkL
  have HNIL := Lib.hid hnil
  have HW := Lib.hid (Tryd_wakes04 w hN)
  have HTH := Lib.hid (objE_three d f L)
  obtain ⟨E, hE⟩ : ∃ E, objE d f L = E := ⟨_, rfl⟩
  obtain ⟨X, hX⟩ : ∃ X, objX d f L = X := ⟨_, rfl⟩
  have HE := Lib.hid hE
  have HX := Lib.hid hX
  obtain ⟨i0, hi0, hz0, hz1, hz2⟩ := info_parts Tryd_infoPair
  clear hE hX hg hN hat hl hf hks hfL hkL hLf hL hm hLl hcm hnc hnil hn
  go_enter Tryd.func10, Tryd.ntmps10
  go_wp2_with fail
  refine HW.out.mono ?_; rintro e' w1 ⟨rfl, hb1⟩
  have B1 := Lib.hid hb1
  clear hb1 HW
  go_wp2_with fail
  have hob := HOB.out w1 a c L B1.out (List.Perm.refl _) (HLF.out w1 B1.out) HNIL.out p3
  rw [HE.out, HX.out] at hob
  refine hob.mono ?_; rintro e' w2 ⟨⟨k1, n1, s1, a1, l1, c1, a2, l2, c2, rfl, hv1, hz1'⟩, hb2⟩
  have B2 := Lib.hid (B1.out.trans (hb2.mono B1.out.size))
  have HV1 := Lib.hid hv1
  clear hv1 hz1' hb2
  obtain ⟨r, hr⟩ : ∃ r : Nat, 0 < m → (IntKind.u64.wrap turn).tmod (m : Int) = (r : Int) ∧ r < m := by
    by_cases h0 : 0 < m
    · have h3 : 0 ≤ IntKind.u64.wrap turn := by
        have := Int.emod_nonneg turn (show (18446744073709551616 : Int) ≠ 0 by omega)
        exact this
      have h1 := Int.emod_nonneg (IntKind.u64.wrap turn) (show (m : Int) ≠ 0 by omega)
      have h2 := Int.emod_lt_of_pos (IntKind.u64.wrap turn) (show (0 : Int) < (m : Int) by omega)
      rw [Int.tmod_eq_emod_of_nonneg h3]
      exact ⟨(IntKind.u64.wrap turn % (m : Int)).toNat, fun _ => ⟨by omega, by omega⟩⟩
    · exact ⟨0, fun h => (h0 h).elim⟩
  have HR := Lib.hid hr
  clear hr
  go_wp2_with fail
  go_loopw [7, 8, 29] (fun rv _ ix wr => ∃ i : Nat, i ≤ m ∧ ix = .int .i64 (i : Int) ∧ wr.ownsRow (w2.heap.size + 1) 56 6 rv i (flatE ((turnL L r).take i)) ∧ Blk wr w2.heap.size [.int .i64 k1, .int .i64 n1, .string s1, .slice a1 l1 c1, .slice a2 l2 c2] 39 ∧ Below w2.heap.size w2 wr) (fun _ _ ix _ => m - (intOf ix).toNat)
  case atStart => exact ⟨0, Nat.zero_le _, by go_num, World.ownsRow_nil _ _ _ _, Blk.new _ [.int .i64 k1, .int .i64 n1, .string s1, .slice a1 l1 c1, .slice a2 l2 c2] _, (by repeat (first | (with_reducible exact Below.refl _ _) | (with_reducible exact Below.refl _ _) | (with_reducible refine Below.setCell ?_ (by first | omega | (simp; done) | (simp; omega)) _) | (with_reducible refine Below.alloc ?_ (by first | omega | (simp; done) | (simp; omega)) _) | (with_reducible refine Below.drew ?_) | (with_reducible refine below_drewN ?_ _)))⟩
  case round =>
    obtain ⟨i, hi, rfl, hown, hq, hbel⟩ := hrel
    have HO := Lib.hid hown
    have HP := Lib.hid hq
    have HC := Lib.hid hbel
    clear hown hq hbel
    by_cases hlt : i < m
    · have g1 : (i : Int) < (m : Int) := by omega
      obtain ⟨hr1, hr2⟩ := HR.out (by omega)
      have w64 : ∀ x : Int, wrap64 x = IntKind.i64.wrap x := fun x => by rw [i64_wrap_def, wrap64_def]
      have u2 : wrap64 (r : Int) = (r : Int) := by rw [w64, IntWalk.i64_in _ (by omega)]
      have u3 : wrap64 ((r : Int) + (m : Int)) = (r : Int) + (m : Int) := by rw [w64, IntWalk.i64_in _ (by omega)]
      have u4 : wrap64 ((r : Int) + (m : Int) - (i : Int)) = (r : Int) + (m : Int) - (i : Int) := by rw [w64, IntWalk.i64_in _ (by omega)]
      have hqm : (r + m - i) % m < m := Nat.mod_lt _ (by omega)
      have hm0 : ¬ (m : Int) = 0 := by omega
      have v1 : 0 ≤ ((r : Int) + (m : Int) - (i : Int)) % (m : Int) := Int.emod_nonneg _ hm0
      have v2 : ((r : Int) + (m : Int) - (i : Int)) % (m : Int) < (m : Int) := Int.emod_lt_of_pos _ (by omega)
      have hm1 : ((m : Int) == 0) = false := by rw [beq_eq_false_iff_ne]; omega
      obtain ⟨p, hp⟩ : ∃ p, L[(r + m - i) % m]? = some p := ⟨_, List.getElem?_eq_getElem (by have := HLL.out; omega)⟩
      have hti : (turnL L r)[i]? = some p := by rw [turnL_get HLL.out hr2 hlt, hp]
      have HTI := Lib.hid hti
      obtain ⟨b, o, rfl, hbl, _⟩ := (HLF.out w (Below.refl _ _)) ((r + m - i) % m * 6 + 0) (.string p.key) (by have := flatE_get (j := 0) hp rfl []; rwa [List.append_nil] at this)
      have hBC : Below w.heap.size w wr := B2.out.trans (HC.out.mono B2.out.size)
      have cc : ∀ j u, p.cells[j]? = some u → wr.cell? ⟨b, o + (r + m - i) % m * 6 + j, none⟩ = some u := fun j u hu => by
        obtain ⟨b', o', e, h1, h2⟩ := (HLF.out w (Below.refl _ _)) ((r + m - i) % m * 6 + j) u (by have := flatE_get (j := j) hp hu []; rwa [List.append_nil] at this)
        cases e
        rw [← Nat.add_assoc] at h2
        exact (hBC.cell (p := ⟨b, o + (r + m - i) % m * 6 + j, none⟩) h1).trans h2
      have x0 : wr.cell? ⟨b, o + (r + m - i) % m * 6, none⟩ = some (.string p.key) := cc 0 _ rfl
      have x1 := cc 1 _ rfl
      have x2 := cc 2 _ rfl
      have x3 := cc 3 _ rfl
      have x4 := cc 4 _ rfl
      have x5 := cc 5 _ rfl
      have hbw : b < wr.heap.size := Nat.lt_of_lt_of_le hbl hBC.size
      clear hp hti cc hbl hBC w64
      go_wp2_with (at_builtin; refine wpList_append_ownF rfl (.tmp 32) (.tmp 51) 48 rfl Tryd.underlying48 hi0 hz0 hz1 hz2 rfl (by decide) (w2.heap.size + 1) i u7 (flatE ((turnL L r).take i)) rfl (ownsRow_below HO.out (by exact (by repeat (first | (with_reducible exact Below.refl _ _) | (with_reducible exact Below.refl _ _) | (with_reducible refine Below.setCell ?_ (by first | omega | (simp; done) | (simp; omega)) _) | (with_reducible refine Below.alloc ?_ (by first | omega | (simp; done) | (simp; omega)) _) | (with_reducible refine Below.drew ?_) | (with_reducible refine below_drewN ?_ _))))) (some ⟨wr.heap.size, 0, none⟩) 1 1 p.cells (by rfl) (fun j u hu => ⟨wr.heap.size, 0, rfl, by simp, by rw [Nat.zero_add]; exact (Blk.new wr p.cells 56).cell j hu⟩) rfl (by simp [PairE.cells, Value.oneCell']) (fun e => by cases e) (Nat.le_refl _) (by unfold maxLen; omega) (by omega) (by have := HC.out.size; simp; omega) ?_; intro v2 w5 ho5 hgr5; have HO5 := Lib.hid ho5; have HG5 := Lib.hid hgr5; clear ho5 hgr5)
      go_roundw
      case rel =>
        have hpp : flatE ((turnL L r).take (i + 1)) = flatE ((turnL L r).take i) ++ p.cells := by unfold flatE; rw [List.take_add_one, HTI.out, List.flatMap_append]; simp
        have h4 : Below (w2.heap.size + 1) wr (wr.alloc (.cells p.cells.toArray 56)) := (Below.refl _ _).alloc (by have := HO.out; have := HP.out.lt; omega) _
        have h5 : Below (w2.heap.size + 1) wr w5 := below_own h4 (by have := HP.out.lt; simp; omega) (ownsRow_below HO.out (by exact (by repeat (first | (with_reducible exact Below.refl _ _) | (with_reducible exact Below.refl _ _) | (with_reducible refine Below.setCell ?_ (by first | omega | (simp; done) | (simp; omega)) _) | (with_reducible refine Below.alloc ?_ (by first | omega | (simp; done) | (simp; omega)) _) | (with_reducible refine Below.drew ?_) | (with_reducible refine below_drewN ?_ _))))) (Nat.le_refl _) HG5.out
        refine ⟨i + 1, by omega, by go_num, by rw [hpp]; exact HO5.out, HP.out.below h5 (by omega), HC.out.trans (h5.mono (by omega))⟩
      case measure => simp [intOf]; omega
    · obtain rfl : i = m := by omega
      have g1 : ¬ (i : Int) < (i : Int) := by omega
      have htl : (turnL L r).length = i := (turnL_perm L r).length_eq.trans HLL.out
      have hown := HO.out
      rw [List.take_of_length_le (by omega)] at hown
      obtain ⟨ra, rc, hra⟩ := own_sliceW hown
      subst hra
      obtain ⟨f1, f2, f3, f4⟩ := own_flat hown
      have hob2 := HOB.out wr ra rc (turnL L r) (B2.out.trans (HC.out.mono B2.out.size)) (turnL_perm L r) f4 f3 f1
      rw [HE.out, HX.out] at hob2
      have HO2 := Lib.hid hob2
      clear hown f1 f2 f3 f4 hob2 htl HO HOB
      go_wp2_with fail
      refine HO2.out.mono ?_; rintro e' w6 ⟨⟨k2, n2, s2, b1, m1, d1, b2, m2, d2, rfl, hv2, hz2'⟩, hb6⟩
      have C6 := Lib.hid (HC.out.trans (hb6.mono HC.out.size))
      have P6 := Lib.hid (HP.out.ext hb6)
      have HV2 := Lib.hid hv2
      clear hv2 hz2' hb6 HO2 HC HP
      by_cases hE0 : E = 0
      · subst hE0
        have q6 := P6.out.cells
        have l6 := P6.out.lt
        have HVA := Lib.hid (HV1.out rfl)
        have HVB := Lib.hid (HV2.out rfl)
        have hbb0 : Below w2.heap.size w2 (w6.alloc (.cells #[.int .i64 k2, .int .i64 n2, .string s2, .slice b1 m1 d1, .slice b2 m2 d2] 39)) := by have h := C6.out; have s := h.size; exact (by repeat (first | (with_reducible exact Below.refl _ _) | (with_reducible exact Below.refl _ _) | (with_reducible refine Below.setCell ?_ (by first | omega | (simp; done) | (simp; omega)) _) | (with_reducible refine Below.alloc ?_ (by first | omega | (simp; done) | (simp; omega)) _) | (with_reducible refine Below.drew ?_) | (with_reducible refine below_drewN ?_ _) | (with_reducible refine Below.trans ?_ (h.mono (by first | omega | (simp; done) | (simp; omega))))))
        have C7 := Lib.hid hbb0
        have P7 := Lib.hid (P6.out.alloc (.cells #[.int .i64 k2, .int .i64 n2, .string s2, .slice b1 m1 d1, .slice b2 m2 d2] 39))
        have R7 := Lib.hid (Blk.new w6 [.int .i64 k2, .int .i64 n2, .string s2, .slice b1 m1 d1, .slice b2 m2 d2] 39)
        have hE2 := HE.out
        have hgX := HX.out
        obtain ⟨_, _, _, hrx, _⟩ := objE_right HE.out
        rw [HX.out] at hrx
        have HRX := Lib.hid hrx
        clear hrx
        have HRE := Lib.hid (fun W p (hb : Below w2.heap.size w2 W) (hp : p ∈ L) => by
          obtain ⟨h1, h2⟩ := objX_get HE.out hp
          rw [HX.out] at h1
          exact Tryd_reaches d d X (f p) (f p) _ p.agg p.key W (ValAt.ext hb _ HVA.out) (ValAt.ext (B2.out.trans (hb.mono B2.out.size)) _ (HFL.out p hp)) HRX.out h1 (by rw [sameV_self]; exact h2) (HKL.out p hp) (HG.out W (B2.out.trans (hb.mono B2.out.size))))
        have hln := objX_len HE.out
        rw [HX.out, HLL.out] at hln
        have HLN := Lib.hid (fun W (hb : Below w2.heap.size w2 W) => by have q := Tryd_Len d X _ W (ValAt.ext hb _ HVA.out) (HG.out W (B2.out.trans (hb.mono B2.out.size))); rw [hln] at q; exact q)
        have HSM := Lib.hid (fun W (hb : Below w2.heap.size w2 W) (hb6 : Below w6.heap.size w6 W) => by have q := Tryd_vSame (d + 1) (d + 1) X X _ _ W (ValAt.ext hb _ HVA.out) (ValAt.ext hb6 _ HVB.out) (HG.out W (B2.out.trans (hb.mono B2.out.size))); rw [sameV_self, HRX.out] at q; exact q)
        have D7 := Lib.hid (show Below w6.heap.size w6 (w6.alloc (.cells #[.int .i64 k2, .int .i64 n2, .string s2, .slice b1 m1 d1, .slice b2 m2 d2] 39)) from (by repeat (first | (with_reducible exact Below.refl _ _) | (with_reducible exact Below.refl _ _) | (with_reducible refine Below.setCell ?_ (by first | omega | (simp; done) | (simp; omega)) _) | (with_reducible refine Below.alloc ?_ (by first | omega | (simp; done) | (simp; omega)) _) | (with_reducible refine Below.drew ?_) | (with_reducible refine below_drewN ?_ _))))
        clear hE2 hgX hbb0 HV1 HV2 hln HVA HVB HRX HE HX HTH
        go_wp2_with fail
        go_loopw [72] (fun ix wr => ∃ j : Nat, j ≤ i ∧ ix = .int .i64 (j : Int) ∧ Blk wr w2.heap.size [.int .i64 k1, .int .i64 n1, .string s1, .slice a1 l1 c1, .slice a2 l2 c2] 39 ∧ Blk wr w6.heap.size [.int .i64 k2, .int .i64 n2, .string s2, .slice b1 m1 d1, .slice b2 m2 d2] 39 ∧ Below w2.heap.size w2 wr ∧ Below w6.heap.size w6 wr) (fun ix _ => i - (intOf ix).toNat)
        case atStart => exact ⟨0, Nat.zero_le _, by go_num, P7.out, R7.out, C7.out, D7.out⟩
        case round =>
          obtain ⟨j, hj, rfl, hq5, hq9, hb2', hb6'⟩ := hrel
          have Q5 := Lib.hid hq5
          have Q9 := Lib.hid hq9
          have C8 := Lib.hid hb2'
          have D8 := Lib.hid hb6'
          have q5 := hq5.cells
          have l5 := hq5.lt
          have q9 := hq9.cells
          have l9 := hq9.lt
          clear hq5 hq9 hb2' hb6' q6 l6
          by_cases hlt : j < i
          · have g2 : (j : Int) < (i : Int) := by omega
            obtain ⟨p, hp⟩ : ∃ p, L[j]? = some p := ⟨_, List.getElem?_eq_getElem (by have := HLL.out; omega)⟩
            obtain ⟨b, o, rfl, hbw, x0, x1, x2, x3, x4, x5⟩ := FlatAt.pair (HLF.out w (Below.refl _ _)) (B2.out.trans (C8.out.mono B2.out.size)) hp
            have hpm := List.mem_of_getElem? hp
            have c9 : Below w2.heap.size w2 (wr.alloc (.cells #[.string p.key, .int .i64 p.k, .int .i64 p.n, .string p.s, .slice p.a1 p.l1 p.c1, .slice p.a2 p.l2 p.c2] 56)) := by have h := C8.out; have s := h.size; exact (by repeat (first | (with_reducible exact Below.refl _ _) | (with_reducible exact Below.refl _ _) | (with_reducible refine Below.setCell ?_ (by first | omega | (simp; done) | (simp; omega)) _) | (with_reducible refine Below.alloc ?_ (by first | omega | (simp; done) | (simp; omega)) _) | (with_reducible refine Below.drew ?_) | (with_reducible refine below_drewN ?_ _) | (with_reducible refine Below.trans ?_ (h.mono (by first | omega | (simp; done) | (simp; omega))))))
            have d9 : Below w6.heap.size w6 (wr.alloc (.cells #[.string p.key, .int .i64 p.k, .int .i64 p.n, .string p.s, .slice p.a1 p.l1 p.c1, .slice p.a2 p.l2 p.c2] 56)) := by have h := D8.out; have s := h.size; exact (by repeat (first | (with_reducible exact Below.refl _ _) | (with_reducible exact Below.refl _ _) | (with_reducible refine Below.setCell ?_ (by first | omega | (simp; done) | (simp; omega)) _) | (with_reducible refine Below.alloc ?_ (by first | omega | (simp; done) | (simp; omega)) _) | (with_reducible refine Below.drew ?_) | (with_reducible refine below_drewN ?_ _) | (with_reducible refine Below.trans ?_ (h.mono (by first | omega | (simp; done) | (simp; omega))))))
            have HC9 := Lib.hid (HRE.out _ p c9 hpm)
            have C9 := Lib.hid c9
            have D9 := Lib.hid d9
            have Q59 := Lib.hid (Q5.out.alloc (.cells #[.string p.key, .int .i64 p.k, .int .i64 p.n, .string p.s, .slice p.a1 p.l1 p.c1, .slice p.a2 p.l2 p.c2] 56))
            have Q99 := Lib.hid (Q9.out.alloc (.cells #[.string p.key, .int .i64 p.k, .int .i64 p.n, .string p.s, .slice p.a1 p.l1 p.c1, .slice p.a2 p.l2 p.c2] 56))
            clear hp hpm c9 d9 Q5 Q9 C8 D8
            go_wp2_with fail
            refine HC9.out.mono ?_; rintro e' w8 ⟨rfl, hb8⟩
            have HF := Lib.hid (show Blk w8 w2.heap.size [.int .i64 k1, .int .i64 n1, .string s1, .slice a1 l1 c1, .slice a2 l2 c2] 39 ∧ Blk w8 w6.heap.size [.int .i64 k2, .int .i64 n2, .string s2, .slice b1 m1 d1, .slice b2 m2 d2] 39 ∧ Below w2.heap.size w2 w8 ∧ Below w6.heap.size w6 w8 from ⟨Q59.out.ext hb8, Q99.out.ext hb8, C9.out.trans (hb8.mono C9.out.size), D9.out.trans (hb8.mono D9.out.size)⟩)
            clear hb8 HC9 C9 D9 Q59 Q99
            go_wp2_with fail
            go_roundw
            case rel => exact ⟨j + 1, by omega, by go_num, HF.out.1, HF.out.2.1, HF.out.2.2.1, HF.out.2.2.2⟩
            case measure => simp [intOf]; omega
          · obtain rfl : j = i := by omega
            have g2 : ¬ (j : Int) < (j : Int) := by omega
            clear HRE
            go_wp2_with fail
            refine (HLN.out _ C8.out).mono ?_; rintro e' w8 ⟨rfl, hb8⟩
            have C9 := Lib.hid (C8.out.trans (hb8.mono C8.out.size))
            have D9 := Lib.hid (D8.out.trans (hb8.mono D8.out.size))
            have hq5 := Q5.out.ext hb8
            have hq9 := Q9.out.ext hb8
            have q5 := hq5.cells
            have l5 := hq5.lt
            have q9 := hq9.cells
            have l9 := hq9.lt
            clear hb8 hq5 hq9 C8 D8 Q5 Q9 HLN
            go_wp2_with fail
            refine (HSM.out _ C9.out D9.out).mono ?_; rintro e' w10 ⟨rfl, hb10⟩
            have HBF := Lib.hid (B2.out.trans ((C9.out.trans (hb10.mono C9.out.size)).mono B2.out.size))
            clear hb10
            go_wp2
            go_ret
            exact ⟨rfl, by have h := HBF.out; have s := h.size; exact (by repeat (first | (with_reducible exact Below.refl _ _) | (with_reducible exact Below.refl _ _) | (with_reducible refine Below.setCell ?_ (by first | omega | (simp; done) | (simp; omega)) _) | (with_reducible refine Below.alloc ?_ (by first | omega | (simp; done) | (simp; omega)) _) | (with_reducible refine Below.drew ?_) | (with_reducible refine below_drewN ?_ _) | (with_reducible refine Below.trans ?_ (h.mono (by first | omega | (simp; done) | (simp; omega))))))⟩
      · have hE1 : (E == 0) = false := by rw [beq_eq_false_iff_ne]; exact hE0
        rcases HTH.out with h | h | h
        · exact (hE0 (HE.out.symm.trans h)).elim
        · obtain rfl : E = 140 := HE.out.symm.trans h
          go_wp2
          go_ret
          exact ⟨rfl, by have h := B2.out.trans (C6.out.mono B2.out.size); have s := h.size; exact (by repeat (first | (with_reducible exact Below.refl _ _) | (with_reducible exact Below.refl _ _) | (with_reducible refine Below.setCell ?_ (by first | omega | (simp; done) | (simp; omega)) _) | (with_reducible refine Below.alloc ?_ (by first | omega | (simp; done) | (simp; omega)) _) | (with_reducible refine Below.drew ?_) | (with_reducible refine below_drewN ?_ _) | (with_reducible refine Below.trans ?_ (h.mono (by first | omega | (simp; done) | (simp; omega))))))⟩
        · obtain rfl : E = 141 := HE.out.symm.trans h
          go_wp2
          go_ret
          exact ⟨rfl, by have h := B2.out.trans (C6.out.mono B2.out.size); have s := h.size; exact (by repeat (first | (with_reducible exact Below.refl _ _) | (with_reducible exact Below.refl _ _) | (with_reducible refine Below.setCell ?_ (by first | omega | (simp; done) | (simp; omega)) _) | (with_reducible refine Below.alloc ?_ (by first | omega | (simp; done) | (simp; omega)) _) | (with_reducible refine Below.drew ?_) | (with_reducible refine below_drewN ?_ _) | (with_reducible refine Below.trans ?_ (h.mono (by first | omega | (simp; done) | (simp; omega))))))⟩
end Go.Proofs.YtmcmknndhppljaaDoor
