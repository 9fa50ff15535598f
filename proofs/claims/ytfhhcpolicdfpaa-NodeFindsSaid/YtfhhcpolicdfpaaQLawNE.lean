/-
  The law of layer 14: NodeFinds, walked.
-/
import Derived.Test.YtfhhcpolicdfpaaQNodAB
import Derived.Test.YtfhhcpolicdfpaaNdP
import Derived.Test.YtfhhcpolicdfpaaQLawND
import Derived.Test.YtfhhcpolicdfpaaQLawNA
namespace Go.Dav
set_option linter.unusedVariables false
set_option linter.unusedSimpArgs false
open Go Go.RowKit
theorem compare_pos {x y : List UInt8} (h : aheadB y x = true) : 0 < Lib.compareBytes x y := by
  have h1 := compare_ahead x y
  have h2 : ¬ Lib.compareBytes x y < 0 := fun hl => by
    have := ahead_trans h (h1.1.1 hl)
    rw [ahead_irrefl] at this; cases this
  have h3 : ¬ Lib.compareBytes x y = 0 := fun he => by
    have := h1.2.1.1 he
    subst this
    rw [ahead_irrefl] at h; cases h
  omega
end Go.Dav
namespace Go.Proofs.Ytfhhcpolicdfpaa
set_option linter.unusedVariables false
set_option linter.unusedSimpArgs false
open Go.RowKit Go.Dav
attribute [local go_sem] Gives ite_val ite_val_true
set_option maxRecDepth 8000 in
set_option maxHeartbeats 16000000 in
theorem Try_NodeFinds (N0 : NodeD) (ia ka qa : Option Addr) (il ic kl kc qn qc : Nat) (key : List UInt8) (w : World) (hN : NodeS w (fun b => b < w.heap.size) ia il ic ka kl kc N0) (hk : BytesAt w qa qn qc key) :
    Calls Try.prog 8 #[.agg #[.bool N0.leaf, .slice ia il ic, .slice ka kl kc], .slice qa qn qc] w fun e w' => e = .returned (.bool true) ∧ Below w.heap.size w w' := by
  have HK := Lib.hid hk
  clear hk
  obtain ⟨f0, hf0⟩ : ∃ f, N0.leaf = f := ⟨_, rfl⟩
  rw [hf0]
  obtain ⟨w0, hw0⟩ : ∃ w0, w.alloc (.cells #[.bool f0, .slice ia il ic, .slice ka kl kc] 28) = w0 := ⟨_, rfl⟩
  have hb0 : Below w.heap.size w w0 := by rw [← hw0]; exact (by repeat (first | (with_reducible exact Below.refl _ _) | (with_reducible exact Below.refl _ _) | (with_reducible refine Below.setCell ?_ (by first | omega | (simp; done) | (simp; omega)) _) | (with_reducible refine Below.alloc ?_ (by first | omega | (simp; done) | (simp; omega)) _) | (with_reducible refine Below.drew ?_) | (with_reducible refine below_drewN ?_ _)))
  have Q0 : Blk w0 w.heap.size [.bool f0, .slice ia il ic, .slice ka kl kc] 28 := by rw [← hw0]; exact Blk.new w _ _
  have HN0 := Lib.hid (hN.ext hb0)
  have HF0 := Lib.hid hf0
  have HB0 := Lib.hid hb0
  have HQ0 := Lib.hid Q0
  clear hN hb0 Q0 hf0
  go_enter Try.func8, Try.ntmps8
  go_wp2_with fail
  clear hw0
  (with_reducible refine (Try_wakes14 _).mono ?_); rintro e w1 ⟨rfl, hb1⟩
  have hq1 := HQ0.out.ext hb1
  have c1 := hq1.cells
  have m1 := hq1.marks
  have l1 := hq1.lt
  have HN1 := Lib.hid (HN0.out.ext hb1)
  have HB1 := Lib.hid (HB0.out.trans (hb1.mono HB0.out.size))
  have hown := Try_own N0 ia ka il ic kl kc _ w1 (HN1.out.mono (fun b h => Nat.lt_of_lt_of_le h HB1.out.size)) (fun b h => h)
  rw [HF0.out] at hown
  have HOWN := Lib.hid hown
  clear hb1 hown hq1
  go_wp2_with fail
  (with_reducible refine HOWN.out.mono ?_); rintro e w2 ⟨ja, jl, jc, la, ll, lc, rfl, hN2, hb2⟩
  obtain ⟨N, hNN⟩ : ∃ N, ownN N0 = N := ⟨_, rfl⟩
  have hlf : N.leaf = f0 := by rw [← hNN]; exact HF0.out
  rw [hNN] at hN2
  obtain ⟨w3, hw3⟩ : ∃ w3, w2.alloc (.cells #[.bool f0, .slice ja jl jc, .slice la ll lc] 28) = w3 := ⟨_, rfl⟩
  have hb3 : Below w2.heap.size w2 w3 := by rw [← hw3]; exact (Below.refl _ _).alloc (Nat.le_refl _) _
  have Q3 : Blk w3 w2.heap.size [.bool f0, .slice ja jl jc, .slice la ll lc] 28 := by rw [← hw3]; exact Blk.new w2 _ _
  have c3 := Q3.cells
  have m3 := Q3.marks
  have l3 := Q3.lt
  have HQ3 := Lib.hid Q3
  have HN3 := Lib.hid (hN2.ext hb3)
  have HB3 := Lib.hid ((HB1.out.trans (hb2.mono HB1.out.size)).trans (hb3.mono (by have := HB1.out.size; have := hb2.size; omega)))
  have HLF := Lib.hid hlf
  clear hb2 hN2 hNN hlf hb3 Q3 c1 m1 l1 HOWN HN1 HQ0 HN0
  go_wp2_with fail
  clear hw3
  have HK3 := Lib.hid (HK.out.ext (HB3.out))
  clear HK
  have hpl := Try_Place N ja la qa jl jc ll lc qn qc _ key _ HN3.out HK3.out
  rw [HLF.out] at hpl
  (with_reducible refine hpl.mono ?_); rintro e w4 ⟨rfl, hb4⟩
  have q4 := HQ3.out.ext hb4
  have HQ4 := Lib.hid q4
  have HN4 := Lib.hid (HN3.out.ext hb4)
  have HK4 := Lib.hid (HK3.out.ext hb4)
  have HB4 := Lib.hid (HB3.out.trans (hb4.mono HB3.out.size))
  have c4 := q4.cells
  have m4 := q4.marks
  have l4 := q4.lt
  clear hpl hb4 q4 c3 m3 l3 HQ3 HN3 HK3 HB3
  have hch := Try_nCheck N ja la jl jc ll lc _ w4 HN4.out
  rw [HLF.out] at hch
  have HCH := Lib.hid hch
  clear hch
  cases hok : nodeOk N with
  | false =>
    have e1 : placeN N key = (0, false) := by unfold placeN; rw [hok]; rfl
    have e0 := nodeE_240 hok
    rw [e0] at HCH
    rw [e1]
    clear hok
    go_wp2_with fail
    (with_reducible refine HCH.out.mono ?_); rintro e w5 ⟨rfl, hb5⟩
    have HB5 := Lib.hid (HB4.out.trans (hb5.mono HB4.out.size))
    clear hb5
    go_wp2
    go_ret
    exact ⟨rfl, HB5.out⟩
  | true =>
    have e0 := nodeE_0 hok
    rw [e0] at HCH
    obtain ⟨low, at_, is, e1, hp1, hp2, hp3, hp4, hp5⟩ := place_spec (key := key) hok
    rw [e1]
    have HOK := Lib.hid hok
    have HP := Lib.hid (And.intro hp1 (And.intro hp2 (And.intro hp3 (And.intro hp4 hp5))))
    clear hok hp1 hp2 hp3 hp4 hp5 e1
    go_wp2_with fail
    (with_reducible refine HCH.out.mono ?_); rintro e w5 ⟨rfl, hb5⟩
    have q5 := HQ4.out.ext hb5
    have HQ5 := Lib.hid q5
    have HN5 := Lib.hid (HN4.out.ext hb5)
    have HK5 := Lib.hid (HK4.out.ext hb5)
    have HB5 := Lib.hid (HB4.out.trans (hb5.mono HB4.out.size))
    have c5 := q5.cells
    have m5 := q5.marks
    have l5 := q5.lt
    clear hb5 q5 c4 m4 l4 HQ4 HN4 HK4 HB4 HCH
    go_wp2_with fail
    have HNS := Lib.hid HN5.out.s
    have HJI := Lib.hid HN5.out.items.hlen
    have HJF := Lib.hid (show jl ≤ 6 by
      have h1 := (nodeOk_check HOK.out).1
      have h2 := (shape_few h1).1
      have := HN5.out.items.hlen
      omega)
    go_loopw [41, 8] (fun ix kv wr => ∃ (k : Nat) (cs : List Value), k ≤ jl ∧ ix = .int .i64 k ∧ wr.ownsRow w5.heap.size 22 1 kv k cs ∧ PieceCells wr (fun b => b < w5.heap.size) cs ((N.items.take k).map (·.key)) ∧ Below w5.heap.size w5 wr) (fun ix _ _ => jl - (intOf ix).toNat)
    case atStart => exact ⟨0, [], Nat.zero_le _, rfl, World.ownsRow_nil _ _ _ _, ⟨rfl, fun k p h => by simp at h⟩, Below.refl _ _⟩
    clear c5 m5 l5
    case round =>
      obtain ⟨k, cs, hk, rfl, hown, hpc, hbel⟩ := hrel
      have q6 := HQ5.out.ext hbel
      have c6 := q6.cells
      have m6 := q6.marks
      have l6 := q6.lt
      have HOW := Lib.hid hown
      have HPC := Lib.hid hpc
      have HBE := Lib.hid hbel
      have hjf := HJF.out
      by_cases hlt : k < jl
      · obtain ⟨x, hx⟩ : ∃ x, N.items[k]? = some x := ⟨_, List.getElem?_eq_getElem (by have := HJI.out; omega)⟩
        obtain ⟨b, o, xa, xl, xc, va, vl, vc, rfl, hb1, hs1, d0, d1, d2, d3, h4, h5, h6⟩ := (HNS.out.ext hbel).items.hat k x hx
        have hlt' : (k : Int) < (jl : Int) := by omega
        have hk0 : ¬ (k : Int) < 0 := by omega
        have hk7 : (k : Int) < 7 := by omega
        have HX := Lib.hid hx
        have H4 := Lib.hid h4
        have HLT := Lib.hid hlt
        have hsw := hbel.size
        clear hown hpc hbel hx h4 h5 h6 hlt hk q6
        go_wp2_with (at_builtin; refine wpList_append_rowS rfl (.tmp 45) (.tmp 48) 54 rfl Try_elemBytes w5.heap.size _ k cs rfl ((HOW.out.alloc _).alloc _) (fun _ => True) (some ⟨wr.heap.size + 1, 0, none⟩) 1 1 [.slice xa xl xc] rfl (cells_one trivial (by simp) ((Blk.new' (wr.alloc _) [_] _ (by simp)).cell 0 rfl)) (by simp [Value.oneCell']) (fun h => by cases h) (by unfold maxLen; omega) (by omega) (by simp; omega) ?_; intro v' w7 hown7 hgrow)
        have hb7 : Below w5.heap.size w5 w7 := below_own (B := w5.heap.size) ((HBE.out.alloc hsw _).alloc (by simp; omega) _) (by simp; omega) ((HOW.out.alloc _).alloc _) (Nat.le_refl _) hgrow
        have hs7 : wr.heap.size ≤ w7.heap.size := by have := hgrow.size; simp at this; omega
        have hbb : ∀ b, b < w5.heap.size → b < wr.heap.size → w7.heap[b]? = wr.heap[b]? := fun b h _ => (hb7.block b h).trans (HBE.out.block b h).symm
        have hpc7 : PieceCells w7 (fun b => b < w5.heap.size) (cs ++ [.slice xa xl xc]) ((N.items.take (k + 1)).map (·.key)) := by
          rw [List.take_add_one, HX.out, List.map_append]
          exact (HPC.out.same hs7 hbb).append (pieces_one (H4.out.same hs7 hbb))
        clear hgrow
        go_roundw
        case rel => exact ⟨k + 1, _, HLT.out, by go_num, hown7, hpc7, hb7⟩
        case measure => simp [intOf]; have := HLT.out; omega
      · obtain rfl : k = jl := by omega
        have hlt' : ¬ (k : Int) < (k : Int) := by omega
        have hpc1 : PieceCells wr (fun b => b < w5.heap.size) cs (N.items.map (·.key)) := by
          have h := HPC.out
          rw [List.take_of_length_le (by rw [HJI.out]; exact Nat.le_refl _)] at h
          exact h
        have HPC1 := Lib.hid hpc1
        have HLL := Lib.hid HN5.out.kids.hlen
        have HLF6 := Lib.hid (show ll ≤ 6 by
          have h1 := (nodeOk_check HOK.out).1
          have h2 := (shape_few h1).2.1
          have := HN5.out.kids.hlen
          omega)
        clear hown hpc hbel hpc1 hlt hk q6 HPC
        go_wp2_with fail
        clear hlt'
        go_loopw [54, 8] (fun ix kv wq => ∃ (q : Nat) (ds : List Value), q ≤ ll ∧ ix = .int .i64 q ∧ wq.ownsRow w5.heap.size 22 1 kv (k + q) ds ∧ PieceCells wq (fun b => b < w5.heap.size) ds (N.items.map (·.key) ++ (N.kids.take q).map (·.key)) ∧ Below w5.heap.size w5 wq) (fun ix _ _ => ll - (intOf ix).toNat)
        case atStart => exact ⟨0, cs, Nat.zero_le _, rfl, HOW.out, by simpa using HPC1.out, HBE.out⟩
        clear c6 m6 l6 HPC1 HOW HBE
        case round =>
          obtain ⟨q, ds, hq, rfl, hown, hpc, hbel⟩ := hrel
          have q7 := HQ5.out.ext hbel
          have c7 := q7.cells
          have m7 := q7.marks
          have l7 := q7.lt
          have HOW := Lib.hid hown
          have HPC := Lib.hid hpc
          have HBE := Lib.hid hbel
          have hl6 := HLF6.out
          by_cases hlt : q < ll
          · obtain ⟨x, hx⟩ : ∃ x, N.kids[q]? = some x := ⟨_, List.getElem?_eq_getElem (by have := HLL.out; omega)⟩
            obtain ⟨b, o, xa, xl, xc, rfl, hb1, hs1, d0, d1, d2, d3, d4, d5, d6, d7, h4, h5, h6⟩ := (HNS.out.ext hbel).kids.hat q x hx
            have hlt' : (q : Int) < (ll : Int) := by omega
            have hk0 : ¬ (q : Int) < 0 := by omega
            have hk7 : (q : Int) < 7 := by omega
            have HX := Lib.hid hx
            have H4 := Lib.hid h4
            have HLT := Lib.hid hlt
            have hsw := hbel.size
            clear hown hpc hbel hx h4 h5 h6 hlt hq q7
            go_wp2_with (at_builtin; refine wpList_append_rowS rfl (.tmp 58) (.tmp 61) 54 rfl Try_elemBytes w5.heap.size _ (k + q) ds rfl ((HOW.out.alloc _).alloc _) (fun _ => True) (some ⟨wr.heap.size + 1, 0, none⟩) 1 1 [.slice xa xl xc] rfl (cells_one trivial (by simp) ((Blk.new' (wr.alloc _) [_] _ (by simp)).cell 0 rfl)) (by simp [Value.oneCell']) (fun h => by cases h) (by unfold maxLen; omega) (by omega) (by simp; omega) ?_; intro v' w7 hown7 hgrow)
            have hb7 : Below w5.heap.size w5 w7 := below_own (B := w5.heap.size) ((HBE.out.alloc hsw _).alloc (by simp; omega) _) (by simp; omega) ((HOW.out.alloc _).alloc _) (Nat.le_refl _) hgrow
            have hs7 : wr.heap.size ≤ w7.heap.size := by have := hgrow.size; simp at this; omega
            have hbb : ∀ b, b < w5.heap.size → b < wr.heap.size → w7.heap[b]? = wr.heap[b]? := fun b h _ => (hb7.block b h).trans (HBE.out.block b h).symm
            have hpc7 : PieceCells w7 (fun b => b < w5.heap.size) (ds ++ [.slice xa xl xc]) (N.items.map (·.key) ++ (N.kids.take (q + 1)).map (·.key)) := by
              rw [List.take_add_one, HX.out, List.map_append, ← List.append_assoc]
              exact (HPC.out.same hs7 hbb).append (pieces_one (H4.out.same hs7 hbb))
            clear hgrow
            go_roundw
            case rel => exact ⟨q + 1, _, HLT.out, by go_num, hown7, hpc7, hb7⟩
            case measure => simp [intOf]; have := HLT.out; omega
          · obtain rfl : q = ll := by omega
            have hlt' : ¬ (q : Int) < (q : Int) := by omega
            have hkp : N.items.map (·.key) ++ N.kids.map (·.key) = (partsOf N).map pKey := by
              have h1 := HOK.out
              unfold nodeOk at h1
              unfold partsOf
              split at h1
              · rename_i hl
                simp only [Bool.and_eq_true, decide_eq_true_eq] at h1
                rw [if_pos hl, List.length_eq_zero_iff.1 h1.2.2.2.2]; simp [pKey, Function.comp]
              · rename_i hl
                simp only [Bool.and_eq_true, decide_eq_true_eq] at h1
                rw [if_neg hl, List.length_eq_zero_iff.1 h1.2.2.1]; simp [pKey, Function.comp]
            have hpc2 := HPC.out
            rw [List.take_of_length_le (by rw [HLL.out]; exact Nat.le_refl _), hkp] at hpc2
            obtain ⟨m, hm⟩ : ∃ m, k + q = m := ⟨_, rfl⟩
            have hmp : (partsOf N).length = m := by
              have := congrArg List.length hkp
              simp only [List.length_append, List.length_map, HJI.out, HLL.out] at this
              omega
            rw [hm] at HOW
            have HM := Lib.hid hmp
            have hm12 : m ≤ 12 := by have := HJF.out; omega
            obtain ⟨ra, rc, rfl, hra1, hra2⟩ := ownsRow_shape HOW.out
            have HRA := Lib.hid (And.intro hra1 hra2)
            have HPK := Lib.hid hpc2
            clear hown hpc hbel hpc2 hkp hlt hq q7 HPC hm hmp hra1 hra2
            go_wp2_with fail
            clear hlt'
            obtain ⟨w8, hw8⟩ : ∃ w8, w8 = wr := ⟨_, rfl⟩
            subst hw8
            go_loopw [66] (fun ix wq => ∃ j : Nat, j ≤ m ∧ ix = .int .i64 j ∧ Below w8.heap.size w8 wq) (fun ix _ => m - (intOf ix).toNat)
            case atStart => exact ⟨0, Nat.zero_le _, rfl, Below.refl _ _⟩
            clear c7 m7 l7
            case round =>
              obtain ⟨j, hj, rfl, hbel⟩ := hrel
              have HBJ := Lib.hid hbel
              have q9 := (HQ5.out.ext HBE.out).ext hbel
              have c9 := q9.cells
              have m9 := q9.marks
              have l9 := q9.lt
              by_cases hlt : j < m
              · obtain ⟨x, hx⟩ : ∃ x, (partsOf N)[j]? = some x := ⟨_, List.getElem?_eq_getElem (by have := HM.out; omega)⟩
                obtain ⟨pa, pl, pc, e1, hB⟩ := HPK.out.2 j (pKey x) (by rw [List.getElem?_map, hx]; rfl)
                obtain ⟨g, rfl⟩ := HRA.out.1 (by omega)
                have hcell : wr.cell? ⟨g, j, none⟩ = some (.slice pa pl pc) := by
                  have h := (HOW.out.cellAt j (by omega)).trans e1
                  have hg : g < w8.heap.size := (HRA.out.2 g rfl).2
                  first | exact (World.cell?_of_block (a := ⟨g, j, none⟩) (hbel.block g hg)).trans h | exact (World.cell?_of_block (a := ⟨g, j, none⟩) (hbel.block g hg)).symm.trans h
                have hlt' : (j : Int) < (m : Int) := by omega
                have hj0 : ¬ (j : Int) < 0 := by omega
                have hj13 : (j : Int) < 13 := by omega
                have hpl := Try_Place N ja la pa k jc q lc pl pc _ (pKey x) wr ((HN5.out.ext HBE.out).ext hbel) (hB.ext hbel).at_
                rw [HLF.out, place_own HOK.out hx] at hpl
                have HPL := Lib.hid hpl
                have HLT := Lib.hid hlt
                clear hx e1 hB hpl hlt hj hbel q9
                go_wp2_with fail
                (with_reducible refine HPL.out.mono ?_); rintro e w10 ⟨rfl, hb10⟩
                have HB10 := Lib.hid (HBJ.out.trans (hb10.mono HBJ.out.size))
                clear hb10 HPL
                go_wp2_with fail
                go_roundw
                case rel => exact ⟨j + 1, HLT.out, by go_num, HB10.out⟩
                case measure => simp [intOf]; have := HLT.out; omega
              · obtain rfl : j = m := by omega
                have hlt' : ¬ (j : Int) < (j : Int) := by omega
                have hle := (nodeOk_check HOK.out).2.1
                rw [HM.out] at hle
                have hj1 : 1 ≤ j := by unfold Go.Dav.leastOf at hle; split at hle <;> omega
                have hj2i : N.leaf = false → 2 ≤ j := fun h => by unfold Go.Dav.leastOf at hle; rw [h, if_neg Bool.false_ne_true] at hle; exact hle
                have HJ2 := Lib.hid hj2i
                obtain ⟨g, rfl⟩ := HRA.out.1 (by omega)
                have hgw : g < w8.heap.size := (HRA.out.2 g rfl).2
                have HG := Lib.hid (show g < wr.heap.size by have := hbel.size; omega)
                have HKEY := Lib.hid (show ∀ i, i < j → ∃ x pa pl pc, (partsOf N)[i]? = some x ∧ wr.cell? ⟨g, i, none⟩ = some (.slice pa pl pc) ∧ BytesAt wr pa pl pc (pKey x) from fun i hi => by
                  obtain ⟨x, hx⟩ : ∃ x, (partsOf N)[i]? = some x := ⟨_, List.getElem?_eq_getElem (by have := HM.out; omega)⟩
                  obtain ⟨pa, pl, pc, e1, hB⟩ := HPK.out.2 i (pKey x) (by rw [List.getElem?_map, hx]; rfl)
                  exact ⟨x, pa, pl, pc, hx, (World.cell?_of_block (a := ⟨g, i, none⟩) (hbel.block g hgw)).trans ((HOW.out.cellAt i (by omega)).trans e1), (hB.ext hbel).at_⟩)
                have HKW := Lib.hid ((HK5.out.ext HBE.out).ext hbel)
                have HQW := Lib.hid q9
                have hbw := HBE.out.trans (hbel.mono HBE.out.size)
                have HBT := Lib.hid (HB5.out.trans (hbw.mono HB5.out.size))
                have HLE := Lib.hid hle
                have HCE := Lib.hid (show ∀ (i : Nat) (x : PartD) (pa : Option Addr) (pl pc : Nat) (c : Int), Lib.compareBytes (pKey x) key = c → BytesAt wr pa pl pc (pKey x) → ∀ W, Below wr.heap.size wr W → Calls Try.prog 28 #[.slice pa pl pc, .slice qa qn qc] W fun e w' => e = .returned (.int .i64 c) ∧ Below W.heap.size W w' from fun i x pa pl pc c hc hB W hb => by
                  have h := Try_Compare pa qa pl pc qn qc _ _ W (hB.ext hb) (HKW.out.ext hb)
                  rwa [hc] at h)
                obtain ⟨hp1, hp2, hp3, hp4, hp5⟩ := HP.out
                rw [HM.out] at hp1
                clear hbel hbw hgw hj hlt q9 hle hj2i
                cases is with
                | true =>
                  clear hp3 hp5
                  obtain ⟨rfl, x, hx, hxk⟩ := hp2 rfl
                  have haj : at_ < j := by have := (List.getElem?_eq_some_iff.1 hx).1; rw [HM.out] at this; exact this
                  obtain ⟨x', pa, pl, pc, hx', hcell, hB⟩ := HKEY.out at_ haj
                  obtain rfl : x = x' := Option.some.inj (hx.symm.trans hx')
                  have HC0 := Lib.hid (HCE.out at_ x pa pl pc 0 (by rw [hxk]; exact (compare_ahead key key).2.1.2 rfl) hB)
                  rw [hxk] at hB
                  have HEQ := Lib.hid (show ∀ W, Below wr.heap.size wr W → Calls Try.prog 15 #[.slice pa pl pc, .slice qa qn qc] W fun e w' => e = .returned (.bool true) ∧ Below W.heap.size W w' from fun W hb => by
                    have h := Try_bytesEqual pa qa pl pc qn qc _ _ W (hB.ext hb) (HKW.out.ext hb)
                    rwa [decide_eq_true rfl] at h)
                  have ha1 : (at_ : Int) < (j : Int) := by omega
                  have ha13 : (at_ : Int) ≤ 12 := by omega
                  clear hx hx' hxk hB hp2
                  cases f0 with
                  | true =>
                    cases at_ with
                    | zero =>
                      clear hp4 HCE
                      go_wp2_with fail
                      (with_reducible refine (HEQ.out _ (Below.refl _ _)).mono ?_); rintro e w10 ⟨rfl, hb10⟩
                      have c10 := (HQW.out.ext hb10).cells
                      have m10 := (HQW.out.ext hb10).marks
                      have l10 := (HQW.out.ext hb10).lt
                      clear c9 m9 l9
                      have HB10 := Lib.hid (HBT.out.trans (hb10.mono HBT.out.size))
                      clear hb10
                      go_wp2
                      go_ret
                      exact ⟨rfl, HB10.out⟩
                    | succ p =>
                      obtain ⟨y, ya, yl, yc, hy, hyc, hyB⟩ := HKEY.out p (by omega)
                      have hya := hp4 p y (by omega) hy
                      obtain ⟨c, hc⟩ : ∃ c, Lib.compareBytes (pKey y) key = c := ⟨_, rfl⟩
                      have HCY := Lib.hid (HCE.out p y ya yl yc c hc hyB)
                      have hcn : ¬ 0 < c := by have := (compare_ahead (pKey y) key).1.2 hya; omega
                      clear hc hya hy hyB hp4 HCE
                      have hsub : ((p + 1 : Nat) : Int) - 1 = (p : Int) := by omega
                      go_wp2_with fail
                      (with_reducible refine (HEQ.out _ (Below.refl _ _)).mono ?_); rintro e w10 ⟨rfl, hb10⟩
                      have c10 := (HQW.out.ext hb10).cells
                      have m10 := (HQW.out.ext hb10).marks
                      have l10 := (HQW.out.ext hb10).lt
                      clear c9 m9 l9
                      have k10 := ((after hb10).1 g p HG.out).trans hyc
                      have HB10 := Lib.hid hb10
                      clear hb10
                      go_wp2_with fail
                      (with_reducible refine (HCY.out _ HB10.out).mono ?_); rintro e w11 ⟨rfl, hb11⟩
                      have hb12 := HB10.out.trans (hb11.mono HB10.out.size)
                      have HB12 := Lib.hid (HBT.out.trans (hb12.mono HBT.out.size))
                      have c12 := (HQW.out.ext hb12).cells
                      have m12 := (HQW.out.ext hb12).marks
                      have l12 := (HQW.out.ext hb12).lt
                      clear hb11 hb12 c10 m10 l10
                      go_wp2
                      go_ret
                      exact ⟨rfl, HB12.out⟩
                  | false =>
                    have hne : ((at_ : Int) == (j : Int)) = false := by simp; omega
                    clear hp4 HCE
                    go_wp2_with fail
                    (with_reducible refine (HEQ.out _ (Below.refl _ _)).mono ?_); rintro e w10 ⟨rfl, hb10⟩
                    have c10 := (HQW.out.ext hb10).cells
                    have m10 := (HQW.out.ext hb10).marks
                    have l10 := (HQW.out.ext hb10).lt
                    clear c9 m9 l9
                    have k10 := ((after hb10).1 g at_ HG.out).trans hcell
                    have HB10 := Lib.hid hb10
                    clear hb10
                    go_wp2_with fail
                    (with_reducible refine (HC0.out _ HB10.out).mono ?_); rintro e w11 ⟨rfl, hb11⟩
                    have hb12 := HB10.out.trans (hb11.mono HB10.out.size)
                    have HB12 := Lib.hid (HBT.out.trans (hb12.mono HBT.out.size))
                    have c12 := (HQW.out.ext hb12).cells
                    have m12 := (HQW.out.ext hb12).marks
                    have l12 := (HQW.out.ext hb12).lt
                    clear hb11 hb12 c10 m10 l10
                    go_wp2
                    go_ret
                    exact ⟨rfl, HB12.out⟩
                | false =>
                  clear hp2
                  have hat := hp3 rfl
                  rw [HLF.out] at hat
                  have HMO := Lib.hid (show ∀ (i : Nat) (x : PartD) (pa : Option Addr) (pl pc : Nat), (partsOf N)[i]? = some x → i = low → BytesAt wr pa pl pc (pKey x) → ∃ c : Int, 0 < c ∧ ∀ W, Below wr.heap.size wr W → Calls Try.prog 28 #[.slice pa pl pc, .slice qa qn qc] W fun e w' => e = .returned (.int .i64 c) ∧ Below W.heap.size W w' from fun i x pa pl pc hx hi hB => by
                    subst hi
                    exact ⟨_, compare_pos (hp5 x hx rfl), HCE.out i x pa pl pc _ rfl hB⟩)
                  clear hp3 hp5
                  by_cases h0 : low = 0
                  · obtain ⟨y, ya, yl, yc, hy, hyc, hyB⟩ := HKEY.out 0 hj1
                    obtain ⟨c, hc, hcm⟩ := HMO.out 0 y ya yl yc hy h0.symm hyB
                    subst h0
                    obtain rfl : at_ = 0 := by rw [hat]; split <;> rfl
                    have HCM := Lib.hid hcm
                    have hj1' : (0 : Int) < (j : Int) := by omega
                    clear hp4 HCE hat hcm hy hyB HMO hp1
                    cases f0 with
                    | true =>
                      go_wp2_with fail
                      (with_reducible refine (HCM.out _ (Below.refl _ _)).mono ?_); rintro e w11 ⟨rfl, hb11⟩
                      have HB12 := Lib.hid (HBT.out.trans (hb11.mono HBT.out.size))
                      have c12 := (HQW.out.ext hb11).cells
                      have m12 := (HQW.out.ext hb11).marks
                      have l12 := (HQW.out.ext hb11).lt
                      clear c9 m9 l9
                      clear hb11
                      go_wp2
                      go_ret
                      exact ⟨rfl, HB12.out⟩
                    | false =>
                      have hj2 : ((0 : Int) == (j : Int)) = false := by simp; omega
                      go_wp2_with fail
                      (with_reducible refine (HCM.out _ (Below.refl _ _)).mono ?_); rintro e w11 ⟨rfl, hb11⟩
                      have HB12 := Lib.hid (HBT.out.trans (hb11.mono HBT.out.size))
                      have c12 := (HQW.out.ext hb11).cells
                      have m12 := (HQW.out.ext hb11).marks
                      have l12 := (HQW.out.ext hb11).lt
                      clear c9 m9 l9
                      clear hb11
                      go_wp2
                      go_ret
                      exact ⟨rfl, HB12.out⟩
                  · obtain ⟨p, hp⟩ : ∃ p, low = p + 1 := ⟨low - 1, by omega⟩
                    obtain ⟨y, ya, yl, yc, hy, hyc, hyB⟩ := HKEY.out p (by omega)
                    have hya := hp4 p y (by omega) hy
                    obtain ⟨c, hc⟩ : ∃ c, Lib.compareBytes (pKey y) key = c := ⟨_, rfl⟩
                    have HCY := Lib.hid (HCE.out p y ya yl yc c hc hyB)
                    have hcn : ¬ 0 < c := by have := (compare_ahead (pKey y) key).1.2 hya; omega
                    clear hc hya hy hyB hp4 HCE
                    by_cases hlj : low < j
                    · obtain ⟨z, za, zl, zc, hz, hzc, hzB⟩ := HKEY.out low hlj
                      obtain ⟨d, hd, hdm⟩ := HMO.out low z za zl zc hz rfl hzB
                      have HCZ := Lib.hid hdm
                      have hlj' : (low : Int) < (j : Int) := by omega
                      have hsub : (low : Int) - 1 = (p : Int) := by omega
                      have hadd : (p : Int) + 1 = (low : Int) := by omega
                      have hpj : (p : Int) < (j : Int) := by omega
                      have hl12 : (low : Int) ≤ 12 := by omega
                      have hp12 : (p : Int) ≤ 12 := by omega
                      clear hz hzB hdm HMO hp1 hlj h0
                      cases f0 with
                      | true =>
                        rw [if_pos rfl] at hat
                        subst hat
                        clear hp
                        go_wp2_with fail
                        (with_reducible refine (HCY.out _ (Below.refl _ _)).mono ?_); rintro e w11 ⟨rfl, hb11⟩
                        have k11 := ((after hb11).1 g at_ HG.out).trans hzc
                        have HB11 := Lib.hid hb11
                        have c12 := (HQW.out.ext hb11).cells
                        have m12 := (HQW.out.ext hb11).marks
                        have l12 := (HQW.out.ext hb11).lt
                        clear c9 m9 l9
                        clear hb11
                        go_wp2_with fail
                        (with_reducible refine (HCZ.out _ HB11.out).mono ?_); rintro e w13 ⟨rfl, hb13⟩
                        have hb14 := HB11.out.trans (hb13.mono HB11.out.size)
                        have HB14 := Lib.hid (HBT.out.trans (hb14.mono HBT.out.size))
                        clear hb13 hb14 c12 m12 l12
                        go_wp2
                        go_ret
                        exact ⟨rfl, HB14.out⟩
                      | false =>
                        rw [if_neg Bool.false_ne_true] at hat
                        obtain rfl : at_ = p := by omega
                        have hne : ((at_ : Int) == (j : Int)) = false := by simp; omega
                        clear hat hp
                        go_wp2_with fail
                        (with_reducible refine (HCY.out _ (Below.refl _ _)).mono ?_); rintro e w11 ⟨rfl, hb11⟩
                        have k11 := ((after hb11).1 g low HG.out).trans hzc
                        have HB11 := Lib.hid hb11
                        have c12 := (HQW.out.ext hb11).cells
                        have m12 := (HQW.out.ext hb11).marks
                        have l12 := (HQW.out.ext hb11).lt
                        clear c9 m9 l9
                        clear hb11
                        go_wp2_with fail
                        (with_reducible refine (HCZ.out _ HB11.out).mono ?_); rintro e w13 ⟨rfl, hb13⟩
                        have hb14 := HB11.out.trans (hb13.mono HB11.out.size)
                        have HB14 := Lib.hid (HBT.out.trans (hb14.mono HBT.out.size))
                        clear hb13 hb14 c12 m12 l12
                        go_wp2
                        go_ret
                        exact ⟨rfl, HB14.out⟩
                    · obtain rfl : low = j := by omega
                      have hsub : (low : Int) - 1 = (p : Int) := by omega
                      have hadd : (p : Int) + 1 = (low : Int) := by omega
                      have hpj : (p : Int) < (low : Int) := by omega
                      have hl12 : (low : Int) ≤ 12 := by omega
                      have hp12 : (p : Int) ≤ 12 := by omega
                      clear HMO hp1 hlj h0
                      cases f0 with
                      | true =>
                        rw [if_pos rfl] at hat
                        subst hat
                        clear hp
                        go_wp2_with fail
                        (with_reducible refine (HCY.out _ (Below.refl _ _)).mono ?_); rintro e w11 ⟨rfl, hb11⟩
                        have HB12 := Lib.hid (HBT.out.trans (hb11.mono HBT.out.size))
                        have c12 := (HQW.out.ext hb11).cells
                        have m12 := (HQW.out.ext hb11).marks
                        have l12 := (HQW.out.ext hb11).lt
                        clear c9 m9 l9
                        clear hb11
                        go_wp2
                        go_ret
                        exact ⟨rfl, HB12.out⟩
                      | false =>
                        rw [if_neg Bool.false_ne_true] at hat
                        obtain rfl : at_ = p := by omega
                        have hne : ((at_ : Int) == (low : Int)) = false := by simp; omega
                        clear hat hp
                        go_wp2_with fail
                        (with_reducible refine (HCY.out _ (Below.refl _ _)).mono ?_); rintro e w11 ⟨rfl, hb11⟩
                        have HB12 := Lib.hid (HBT.out.trans (hb11.mono HBT.out.size))
                        have c12 := (HQW.out.ext hb11).cells
                        have m12 := (HQW.out.ext hb11).marks
                        have l12 := (HQW.out.ext hb11).lt
                        clear c9 m9 l9
                        clear hb11
                        go_wp2
                        go_ret
                        exact ⟨rfl, HB12.out⟩
end Go.Proofs.Ytfhhcpolicdfpaa
