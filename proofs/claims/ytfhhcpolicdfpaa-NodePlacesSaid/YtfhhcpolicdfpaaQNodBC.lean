/-
  The reference of layer 14: Place, walked.
-/
import Derived.Test.YtfhhcpolicdfpaaQNodBB
import Derived.Test.YtfhhcpolicdfpaaNdA
import Derived.Test.YtfhhcpolicdfpaaNdN
namespace Go.Proofs.Ytfhhcpolicdfpaa
set_option linter.unusedVariables false
set_option linter.unusedSimpArgs false
open Go.RowKit Go.Dav
attribute [local go_sem] Gives ite_val ite_val_true

def TryRpI (w : World) (cs : List Value) (K : List (List UInt8)) (key : List UInt8) (n : Nat) (av bv ix : Value) (wr : World) : Prop :=
  ∃ k : Nat, k ≤ n ∧ ix = .int .i64 k ∧ av = .int .i64 (atI K key k : Nat) ∧ bv = .bool (isI K key k) ∧ Blk wr w.heap.size cs 28 ∧ Below w.heap.size w wr
def TryRpK (w : World) (cs : List Value) (K : List (List UInt8)) (key : List UInt8) (n : Nat) (av bv ix : Value) (wr : World) : Prop :=
  ∃ k : Nat, k ≤ n ∧ ix = .int .i64 k ∧ av = .int .i64 (atK K key k : Nat) ∧ bv = .bool (isI K key k) ∧ Blk wr w.heap.size cs 28 ∧ Below w.heap.size w wr
set_option maxRecDepth 8000 in
set_option maxHeartbeats 16000000 in
theorem Try_rPlace (N : NodeD) (ia ka qa : Option Addr) (il ic kl kc qn qc : Nat) (key : List UInt8) (S : Nat → Prop) (w : World) (hN : NodeS w S ia il ic ka kl kc N) (hk : BytesAt w qa qn qc key) (hok : nodeOk N = true) :
    Calls Try.prog 24 #[.agg #[.bool N.leaf, .slice ia il ic, .slice ka kl kc], .slice qa qn qc] w fun e w' => e = .returned (.tuple #[.int .i64 (placeN N key).1, .bool (placeN N key).2]) ∧ Below w.heap.size w w' := by
  have hpr := place_ref (key := key) hok
  obtain ⟨f, hf⟩ : ∃ f, N.leaf = f := ⟨_, rfl⟩
  rw [hf] at hpr ⊢
  have hb0 : Below w.heap.size w (w.alloc (.cells #[.bool f, .slice ia il ic, .slice ka kl kc] 28)) := (by repeat (first | (with_reducible exact Below.refl _ _) | (with_reducible exact Below.refl _ _) | (with_reducible refine Below.setCell ?_ (by first | omega | (simp; done) | (simp; omega)) _) | (with_reducible refine Below.alloc ?_ (by first | omega | (simp; done) | (simp; omega)) _) | (with_reducible refine Below.drew ?_) | (with_reducible refine below_drewN ?_ _)))
  have hq0 := Blk.new w [.bool f, .slice ia il ic, .slice ka kl kc] 28
  have e1 := hN.items.hlen
  have e2 := hN.kids.hlen
  have b1 : (il : Int) ≤ 140737488355328 := by have := hN.items.hfew; omega
  have b2 : (kl : Int) ≤ 140737488355328 := by have := hN.kids.hfew; omega
  have HN := Lib.hid hN
  have HQ0 := Lib.hid hq0
  have HB0 := Lib.hid hb0
  have E1 := Lib.hid e1
  have E2 := Lib.hid e2
  have HF := Lib.hid hf
  have HKY := Lib.hid hk
  have HPR := Lib.hid hpr
  clear hN hq0 hb0 e1 e2 hf hk hpr
  cases f with
  | true =>
    obtain ⟨hk0, hpl⟩ := HPR.out.1 rfl
    obtain ⟨K, hK⟩ : ∃ K, N.items.map (·.key) = K := ⟨_, rfl⟩
    have hkl : kl = 0 := by rw [← E2.out, hk0]; rfl
    rw [hK, E1.out] at hpl
    rw [hpl]
    have HKK := Lib.hid hK
    subst hkl
    clear hk0 hpl HPR hK
    go_enter Try.func24, Try.ntmps24
    go_wp2_with fail
    go_loopw [6, 7, 8] (fun av bv ix wr => TryRpI w [.bool true, .slice ia il ic, .slice ka 0 kc] K key il av bv ix wr) (fun _ _ ix _ => il - (intOf ix).toNat)
    case atStart => exact ⟨0, Nat.zero_le _, rfl, rfl, rfl, HQ0.out, HB0.out⟩
    case round =>
      obtain ⟨k, hk, rfl, rfl, rfl, hq, hbel⟩ := hrel
      have HB := Lib.hid hbel
      have c0 := hq.cells
      have m0 := hq.marks
      have l0 := hq.lt
      have HX := Lib.hid hq
      obtain ⟨a, ha⟩ : ∃ a, atI K key k = a := ⟨_, rfl⟩
      obtain ⟨s, hs⟩ : ∃ s, isI K key k = s := ⟨_, rfl⟩
      rw [ha, hs]
      have HA := Lib.hid ha
      have HS := Lib.hid hs
      clear hq ha hs
      by_cases hlt : k < il
      · obtain ⟨x, hx⟩ : ∃ x, N.items[k]? = some x := ⟨_, List.getElem?_eq_getElem (by have := E1.out; omega)⟩
        obtain ⟨b, o, xa, xl, xc, va, vl, vc, rfl, hb1, hs1, d0, d1, d2, d3, h4, h5, h6⟩ := (HN.out.ext HB.out).items.hat k x hx
        have HKD := Lib.hid (show K.getD k [] = x.key by rw [← HKK.out, List.getD_eq_getElem?_getD, List.getElem?_map, hx]; rfl)
        have hcall := Try_rAhead xa qa xl xc qn qc x.key key _ h4.at_ (HKY.out.ext HB.out)
        have HK1 := Lib.hid h4.at_
        have hlt' : (k : Int) < (il : Int) := by omega
        have HLT := Lib.hid hlt
        have hk0 : ¬ (k : Int) < 0 := by omega
        have HC := Lib.hid hcall
        clear hx h4 h5 h6 hs1 hk hlt hbel hcall d1 d2 d3
        obtain ⟨r, hr⟩ : ∃ r, aheadB x.key key = r := ⟨_, rfl⟩
        rw [hr] at HC
        obtain ⟨q, hqq⟩ : ∃ q, decide (x.key = key) = q := ⟨_, rfl⟩
        have HRR := Lib.hid hr
        go_wp2_with fail
        (with_reducible refine HC.out.mono ?_); rintro e w1 ⟨rfl, hbe⟩
        have HX2 := Lib.hid (HX.out.ext hbe)
        have HB2 := Lib.hid (HB.out.trans (hbe.mono HB.out.size))
        have HK2 := Lib.hid (HK1.out.ext hbe)
        have HQ2 := Lib.hid ((HKY.out.ext HB.out).ext hbe)
        have d0' := ((after hbe).1 b (o + k * 4) hb1).trans d0
        have hb1' : b < w1.heap.size := Nat.lt_of_lt_of_le hb1 hbe.size
        have c1 := HX2.out.cells
        have m1 := HX2.out.marks
        have l1 := HX2.out.lt
        clear hbe c0 m0 l0 d0 hb1 HC HK1 HX hr
        have HQQ := Lib.hid (show (q = true → x.key = key) ∧ (q = false → ¬ x.key = key) by subst hqq; exact ⟨of_decide_eq_true, of_decide_eq_false⟩)
        clear hqq
        cases r with
        | true =>
          have HA2 := Lib.hid (show atI K key (k + 1) = k + 1 by unfold atI; rw [HKD.out, HRR.out, if_pos rfl])
          cases q with
          | true =>
            have HQQ := Lib.hid (HQQ.out.1 rfl)
            cases s with
            | true =>
              have HIS := Lib.hid (show isI K key (k + 1) = true by rw [isI_succ, HS.out, Bool.true_or])
              go_wp2_with fail
              refine' wp_region_seq [.inl _, .inl _, .inl undef, .inl undef, .inl undef, .inl undef, .inl undef, .inl undef, .inl undef, .inl undef, .inl undef, .inl undef, .inl _, .inl _] (by kernel_rfl) (by kernel_rfl) ?main1
              case main1 =>
                refine wpParts_det (by rfl) (fun W hE hN => ?_) ?_
                · go_simp; refine ⟨Below.refl _ _, ?_⟩; rfl
                simp only [Act.put, List.setIfInBounds_toArray, List.set_cons_zero, List.set_cons_succ]
                refine wpParts_det (by rfl) (fun W hE hN => ?_) ?_
                · go_simp; refine ⟨Below.refl _ _, ?_⟩; rfl
                simp only [Act.put, List.setIfInBounds_toArray, List.set_cons_zero, List.set_cons_succ]
                refine wpParts_skip ?_ ?_
                · rfl
                simp only [Act.put, List.setIfInBounds_toArray, List.set_cons_zero, List.set_cons_succ]
                refine wpParts_skip ?_ ?_
                · rfl
                simp only [Act.put, List.setIfInBounds_toArray, List.set_cons_zero, List.set_cons_succ]
                refine wpParts_skip ?_ ?_
                · rfl
                simp only [Act.put, List.setIfInBounds_toArray, List.set_cons_zero, List.set_cons_succ]
                refine wpParts_skip ?_ ?_
                · rfl
                simp only [Act.put, List.setIfInBounds_toArray, List.set_cons_zero, List.set_cons_succ]
                refine wpParts_skip ?_ ?_
                · rfl
                simp only [Act.put, List.setIfInBounds_toArray, List.set_cons_zero, List.set_cons_succ]
                refine wpParts_skip ?_ ?_
                · rfl
                simp only [Act.put, List.setIfInBounds_toArray, List.set_cons_zero, List.set_cons_succ]
                refine wpParts_skip ?_ ?_
                · rfl
                simp only [Act.put, List.setIfInBounds_toArray, List.set_cons_zero, List.set_cons_succ]
                refine wpParts_skip ?_ ?_
                · rfl
                simp only [Act.put, List.setIfInBounds_toArray, List.set_cons_zero, List.set_cons_succ]
                refine wpParts_skip ?_ ?_
                · rfl
                simp only [Act.put, List.setIfInBounds_toArray, List.set_cons_zero, List.set_cons_succ]
                refine wpParts_skip ?_ ?_
                · rfl
                simp only [Act.put, List.setIfInBounds_toArray, List.set_cons_zero, List.set_cons_succ]
                refine wpParts_det (by rfl) (fun W hE hN => ?_) ?_
                · go_simp; refine ⟨Below.refl _ _, ?_⟩; rfl
                simp only [Act.put, List.setIfInBounds_toArray, List.set_cons_zero, List.set_cons_succ]
                refine wpParts_det (by rfl) (fun W hE hN => ?_) ?_
                · go_simp; refine ⟨Below.refl _ _, ?_⟩; rfl
                simp only [Act.put, List.setIfInBounds_toArray, List.set_cons_zero, List.set_cons_succ]
                refine wpParts_end fun W1 hE1 hG1 => ?_
                have hcW1 := fun b o h => hE1.cell (p := ⟨b, o, none⟩) h
                have hfW1 := fun b o h => hE1.frozen (p := ⟨b, o, none⟩) h
                have HB3 := Lib.hid (HB2.out.trans (hE1.mono HB2.out.size))
                have HX3 := Lib.hid (HX2.out.ext hE1)
                clear hE1 hG1 c1 m1 hcW1 hfW1 l1
                go_wp2_with fail
                go_roundw
                case rel => exact ⟨k + 1, HLT.out, by go_num, by rw [HA2.out]; go_num, by rw [HIS.out], HX3.out, HB3.out⟩
                case measure => simp [intOf]; have := HLT.out; omega
            | false =>
              have HIS := Lib.hid (show isI K key (k + 1) = true by rw [isI_succ, HS.out, HKD.out, decide_eq_true HQQ.out]; rfl)
              have hq1 : (x.key == key) = true := by rw [list_beq]; exact decide_eq_true HQQ.out
              go_wp2_with fail
              refine' wp_region_seq [.inl _, .inl _, .inl _, .inl _, .inl _, .inl _, .inl _, .inl _, .inl _, .inl _, .inl _, .inl _, .inl _, .inl _] (by kernel_rfl) (by kernel_rfl) ?main2
              case main2 =>
                refine wpParts_det (by rfl) (fun W hE hN => ?_) ?_
                · go_simp; refine ⟨Below.refl _ _, ?_⟩; rfl
                simp only [Act.put, List.setIfInBounds_toArray, List.set_cons_zero, List.set_cons_succ]
                refine wpParts_det (by rfl) (fun W hE hN => ?_) ?_
                · go_simp; refine ⟨Below.refl _ _, ?_⟩; rfl
                simp only [Act.put, List.setIfInBounds_toArray, List.set_cons_zero, List.set_cons_succ]
                refine wpParts_det (by rfl) (fun W hE hN => ?_) ?_
                · go_simp; refine ⟨Below.refl _ _, ?_⟩; rfl
                simp only [Act.put, List.setIfInBounds_toArray, List.set_cons_zero, List.set_cons_succ]
                refine wpParts_det (by rfl) (fun W hE hN => ?_) ?_
                · have hc := fun b o h => hE.cell (p := ⟨b, o, none⟩) h
                  go_simp; refine ⟨Below.refl _ _, ?_⟩; rfl
                simp only [Act.put, List.setIfInBounds_toArray, List.set_cons_zero, List.set_cons_succ]
                refine wpParts_det (by rfl) (fun W hE hN => ?_) ?_
                · go_simp; refine ⟨Below.refl _ _, ?_⟩; rfl
                simp only [Act.put, List.setIfInBounds_toArray, List.set_cons_zero, List.set_cons_succ]
                refine wpParts_det (by rfl) (fun W hE hN => ?_) ?_
                · go_simp; refine ⟨Below.refl _ _, ?_⟩; rfl
                simp only [Act.put, List.setIfInBounds_toArray, List.set_cons_zero, List.set_cons_succ]
                refine wpParts_det (by rfl) (fun W hE hN => ?_) ?_
                · go_simp; refine ⟨Below.refl _ _, ?_⟩; rfl
                simp only [Act.put, List.setIfInBounds_toArray, List.set_cons_zero, List.set_cons_succ]
                refine wpParts_det (by rfl) (fun W hE hN => ?_) ?_
                · have hc := fun b o h => hE.cell (p := ⟨b, o, none⟩) h
                  go_simp; refine ⟨Below.refl _ _, ?_⟩; rfl
                simp only [Act.put, List.setIfInBounds_toArray, List.set_cons_zero, List.set_cons_succ]
                refine wpParts_det (by rfl) (fun W hE hN => ?_) ?_
                · have k1 := conv_bytes (HK2.out.ext hE) 22 9 5 Try.underlying22 Try.underlying5 Try.underlying9; go_simp; refine ⟨Below.refl _ _, ?_⟩; rfl
                simp only [Act.put, List.setIfInBounds_toArray, List.set_cons_zero, List.set_cons_succ]
                refine wpParts_det (by rfl) (fun W hE hN => ?_) ?_
                · go_simp; refine ⟨Below.refl _ _, ?_⟩; rfl
                simp only [Act.put, List.setIfInBounds_toArray, List.set_cons_zero, List.set_cons_succ]
                refine wpParts_det (by rfl) (fun W hE hN => ?_) ?_
                · have k1 := conv_bytes (HQ2.out.ext hE) 22 9 5 Try.underlying22 Try.underlying5 Try.underlying9; go_simp; refine ⟨Below.refl _ _, ?_⟩; rfl
                simp only [Act.put, List.setIfInBounds_toArray, List.set_cons_zero, List.set_cons_succ]
                refine wpParts_det (by rfl) (fun W hE hN => ?_) ?_
                · go_simp; refine ⟨Below.refl _ _, ?_⟩; rfl
                simp only [Act.put, List.setIfInBounds_toArray, List.set_cons_zero, List.set_cons_succ]
                refine wpParts_det (by rfl) (fun W hE hN => ?_) ?_
                · go_simp; refine ⟨Below.refl _ _, ?_⟩; rfl
                simp only [Act.put, List.setIfInBounds_toArray, List.set_cons_zero, List.set_cons_succ]
                refine wpParts_det (by rfl) (fun W hE hN => ?_) ?_
                · go_simp; refine ⟨Below.refl _ _, ?_⟩; rfl
                simp only [Act.put, List.setIfInBounds_toArray, List.set_cons_zero, List.set_cons_succ]
                refine wpParts_end fun W1 hE1 hG1 => ?_
                have hcW1 := fun b o h => hE1.cell (p := ⟨b, o, none⟩) h
                have hfW1 := fun b o h => hE1.frozen (p := ⟨b, o, none⟩) h
                have HB3 := Lib.hid (HB2.out.trans (hE1.mono HB2.out.size))
                have HX3 := Lib.hid (HX2.out.ext hE1)
                clear hE1 hG1 c1 m1 hcW1 hfW1 l1
                go_wp2_with fail
                go_roundw
                case rel => exact ⟨k + 1, HLT.out, by go_num, by rw [HA2.out]; go_num, by rw [HIS.out], HX3.out, HB3.out⟩
                case measure => simp [intOf]; have := HLT.out; omega
          | false =>
            have HQQ := Lib.hid (HQQ.out.2 rfl)
            cases s with
            | true =>
              have HIS := Lib.hid (show isI K key (k + 1) = true by rw [isI_succ, HS.out, Bool.true_or])
              go_wp2_with fail
              refine' wp_region_seq [.inl _, .inl _, .inl undef, .inl undef, .inl undef, .inl undef, .inl undef, .inl undef, .inl undef, .inl undef, .inl undef, .inl undef, .inl _, .inl _] (by kernel_rfl) (by kernel_rfl) ?main3
              case main3 =>
                refine wpParts_det (by rfl) (fun W hE hN => ?_) ?_
                · go_simp; refine ⟨Below.refl _ _, ?_⟩; rfl
                simp only [Act.put, List.setIfInBounds_toArray, List.set_cons_zero, List.set_cons_succ]
                refine wpParts_det (by rfl) (fun W hE hN => ?_) ?_
                · go_simp; refine ⟨Below.refl _ _, ?_⟩; rfl
                simp only [Act.put, List.setIfInBounds_toArray, List.set_cons_zero, List.set_cons_succ]
                refine wpParts_skip ?_ ?_
                · rfl
                simp only [Act.put, List.setIfInBounds_toArray, List.set_cons_zero, List.set_cons_succ]
                refine wpParts_skip ?_ ?_
                · rfl
                simp only [Act.put, List.setIfInBounds_toArray, List.set_cons_zero, List.set_cons_succ]
                refine wpParts_skip ?_ ?_
                · rfl
                simp only [Act.put, List.setIfInBounds_toArray, List.set_cons_zero, List.set_cons_succ]
                refine wpParts_skip ?_ ?_
                · rfl
                simp only [Act.put, List.setIfInBounds_toArray, List.set_cons_zero, List.set_cons_succ]
                refine wpParts_skip ?_ ?_
                · rfl
                simp only [Act.put, List.setIfInBounds_toArray, List.set_cons_zero, List.set_cons_succ]
                refine wpParts_skip ?_ ?_
                · rfl
                simp only [Act.put, List.setIfInBounds_toArray, List.set_cons_zero, List.set_cons_succ]
                refine wpParts_skip ?_ ?_
                · rfl
                simp only [Act.put, List.setIfInBounds_toArray, List.set_cons_zero, List.set_cons_succ]
                refine wpParts_skip ?_ ?_
                · rfl
                simp only [Act.put, List.setIfInBounds_toArray, List.set_cons_zero, List.set_cons_succ]
                refine wpParts_skip ?_ ?_
                · rfl
                simp only [Act.put, List.setIfInBounds_toArray, List.set_cons_zero, List.set_cons_succ]
                refine wpParts_skip ?_ ?_
                · rfl
                simp only [Act.put, List.setIfInBounds_toArray, List.set_cons_zero, List.set_cons_succ]
                refine wpParts_det (by rfl) (fun W hE hN => ?_) ?_
                · go_simp; refine ⟨Below.refl _ _, ?_⟩; rfl
                simp only [Act.put, List.setIfInBounds_toArray, List.set_cons_zero, List.set_cons_succ]
                refine wpParts_det (by rfl) (fun W hE hN => ?_) ?_
                · go_simp; refine ⟨Below.refl _ _, ?_⟩; rfl
                simp only [Act.put, List.setIfInBounds_toArray, List.set_cons_zero, List.set_cons_succ]
                refine wpParts_end fun W1 hE1 hG1 => ?_
                have hcW1 := fun b o h => hE1.cell (p := ⟨b, o, none⟩) h
                have hfW1 := fun b o h => hE1.frozen (p := ⟨b, o, none⟩) h
                have HB3 := Lib.hid (HB2.out.trans (hE1.mono HB2.out.size))
                have HX3 := Lib.hid (HX2.out.ext hE1)
                clear hE1 hG1 c1 m1 hcW1 hfW1 l1
                go_wp2_with fail
                go_roundw
                case rel => exact ⟨k + 1, HLT.out, by go_num, by rw [HA2.out]; go_num, by rw [HIS.out], HX3.out, HB3.out⟩
                case measure => simp [intOf]; have := HLT.out; omega
            | false =>
              have HIS := Lib.hid (show isI K key (k + 1) = false by rw [isI_succ, HS.out, HKD.out, decide_eq_false HQQ.out]; rfl)
              have hq1 : (x.key == key) = false := by rw [list_beq]; exact decide_eq_false HQQ.out
              go_wp2_with fail
              refine' wp_region_seq [.inl _, .inl _, .inl _, .inl _, .inl _, .inl _, .inl _, .inl _, .inl _, .inl _, .inl _, .inl _, .inl _, .inl _] (by kernel_rfl) (by kernel_rfl) ?main4
              case main4 =>
                refine wpParts_det (by rfl) (fun W hE hN => ?_) ?_
                · go_simp; refine ⟨Below.refl _ _, ?_⟩; rfl
                simp only [Act.put, List.setIfInBounds_toArray, List.set_cons_zero, List.set_cons_succ]
                refine wpParts_det (by rfl) (fun W hE hN => ?_) ?_
                · go_simp; refine ⟨Below.refl _ _, ?_⟩; rfl
                simp only [Act.put, List.setIfInBounds_toArray, List.set_cons_zero, List.set_cons_succ]
                refine wpParts_det (by rfl) (fun W hE hN => ?_) ?_
                · go_simp; refine ⟨Below.refl _ _, ?_⟩; rfl
                simp only [Act.put, List.setIfInBounds_toArray, List.set_cons_zero, List.set_cons_succ]
                refine wpParts_det (by rfl) (fun W hE hN => ?_) ?_
                · have hc := fun b o h => hE.cell (p := ⟨b, o, none⟩) h
                  go_simp; refine ⟨Below.refl _ _, ?_⟩; rfl
                simp only [Act.put, List.setIfInBounds_toArray, List.set_cons_zero, List.set_cons_succ]
                refine wpParts_det (by rfl) (fun W hE hN => ?_) ?_
                · go_simp; refine ⟨Below.refl _ _, ?_⟩; rfl
                simp only [Act.put, List.setIfInBounds_toArray, List.set_cons_zero, List.set_cons_succ]
                refine wpParts_det (by rfl) (fun W hE hN => ?_) ?_
                · go_simp; refine ⟨Below.refl _ _, ?_⟩; rfl
                simp only [Act.put, List.setIfInBounds_toArray, List.set_cons_zero, List.set_cons_succ]
                refine wpParts_det (by rfl) (fun W hE hN => ?_) ?_
                · go_simp; refine ⟨Below.refl _ _, ?_⟩; rfl
                simp only [Act.put, List.setIfInBounds_toArray, List.set_cons_zero, List.set_cons_succ]
                refine wpParts_det (by rfl) (fun W hE hN => ?_) ?_
                · have hc := fun b o h => hE.cell (p := ⟨b, o, none⟩) h
                  go_simp; refine ⟨Below.refl _ _, ?_⟩; rfl
                simp only [Act.put, List.setIfInBounds_toArray, List.set_cons_zero, List.set_cons_succ]
                refine wpParts_det (by rfl) (fun W hE hN => ?_) ?_
                · have k1 := conv_bytes (HK2.out.ext hE) 22 9 5 Try.underlying22 Try.underlying5 Try.underlying9; go_simp; refine ⟨Below.refl _ _, ?_⟩; rfl
                simp only [Act.put, List.setIfInBounds_toArray, List.set_cons_zero, List.set_cons_succ]
                refine wpParts_det (by rfl) (fun W hE hN => ?_) ?_
                · go_simp; refine ⟨Below.refl _ _, ?_⟩; rfl
                simp only [Act.put, List.setIfInBounds_toArray, List.set_cons_zero, List.set_cons_succ]
                refine wpParts_det (by rfl) (fun W hE hN => ?_) ?_
                · have k1 := conv_bytes (HQ2.out.ext hE) 22 9 5 Try.underlying22 Try.underlying5 Try.underlying9; go_simp; refine ⟨Below.refl _ _, ?_⟩; rfl
                simp only [Act.put, List.setIfInBounds_toArray, List.set_cons_zero, List.set_cons_succ]
                refine wpParts_det (by rfl) (fun W hE hN => ?_) ?_
                · go_simp; refine ⟨Below.refl _ _, ?_⟩; rfl
                simp only [Act.put, List.setIfInBounds_toArray, List.set_cons_zero, List.set_cons_succ]
                refine wpParts_det (by rfl) (fun W hE hN => ?_) ?_
                · go_simp; refine ⟨Below.refl _ _, ?_⟩; rfl
                simp only [Act.put, List.setIfInBounds_toArray, List.set_cons_zero, List.set_cons_succ]
                refine wpParts_det (by rfl) (fun W hE hN => ?_) ?_
                · go_simp; refine ⟨Below.refl _ _, ?_⟩; rfl
                simp only [Act.put, List.setIfInBounds_toArray, List.set_cons_zero, List.set_cons_succ]
                refine wpParts_end fun W1 hE1 hG1 => ?_
                have hcW1 := fun b o h => hE1.cell (p := ⟨b, o, none⟩) h
                have hfW1 := fun b o h => hE1.frozen (p := ⟨b, o, none⟩) h
                have HB3 := Lib.hid (HB2.out.trans (hE1.mono HB2.out.size))
                have HX3 := Lib.hid (HX2.out.ext hE1)
                clear hE1 hG1 c1 m1 hcW1 hfW1 l1
                go_wp2_with fail
                go_roundw
                case rel => exact ⟨k + 1, HLT.out, by go_num, by rw [HA2.out]; go_num, by rw [HIS.out], HX3.out, HB3.out⟩
                case measure => simp [intOf]; have := HLT.out; omega
        | false =>
          have HA2 := Lib.hid (show atI K key (k + 1) = a by unfold atI; rw [HKD.out, HRR.out, if_neg Bool.false_ne_true, HA.out])
          cases q with
          | true =>
            have HQQ := Lib.hid (HQQ.out.1 rfl)
            cases s with
            | true =>
              have HIS := Lib.hid (show isI K key (k + 1) = true by rw [isI_succ, HS.out, Bool.true_or])
              go_wp2_with fail
              refine' wp_region_seq [.inl _, .inl _, .inl undef, .inl undef, .inl undef, .inl undef, .inl undef, .inl undef, .inl undef, .inl undef, .inl undef, .inl undef, .inl _, .inl _] (by kernel_rfl) (by kernel_rfl) ?main5
              case main5 =>
                refine wpParts_det (by rfl) (fun W hE hN => ?_) ?_
                · go_simp; refine ⟨Below.refl _ _, ?_⟩; rfl
                simp only [Act.put, List.setIfInBounds_toArray, List.set_cons_zero, List.set_cons_succ]
                refine wpParts_det (by rfl) (fun W hE hN => ?_) ?_
                · go_simp; refine ⟨Below.refl _ _, ?_⟩; rfl
                simp only [Act.put, List.setIfInBounds_toArray, List.set_cons_zero, List.set_cons_succ]
                refine wpParts_skip ?_ ?_
                · rfl
                simp only [Act.put, List.setIfInBounds_toArray, List.set_cons_zero, List.set_cons_succ]
                refine wpParts_skip ?_ ?_
                · rfl
                simp only [Act.put, List.setIfInBounds_toArray, List.set_cons_zero, List.set_cons_succ]
                refine wpParts_skip ?_ ?_
                · rfl
                simp only [Act.put, List.setIfInBounds_toArray, List.set_cons_zero, List.set_cons_succ]
                refine wpParts_skip ?_ ?_
                · rfl
                simp only [Act.put, List.setIfInBounds_toArray, List.set_cons_zero, List.set_cons_succ]
                refine wpParts_skip ?_ ?_
                · rfl
                simp only [Act.put, List.setIfInBounds_toArray, List.set_cons_zero, List.set_cons_succ]
                refine wpParts_skip ?_ ?_
                · rfl
                simp only [Act.put, List.setIfInBounds_toArray, List.set_cons_zero, List.set_cons_succ]
                refine wpParts_skip ?_ ?_
                · rfl
                simp only [Act.put, List.setIfInBounds_toArray, List.set_cons_zero, List.set_cons_succ]
                refine wpParts_skip ?_ ?_
                · rfl
                simp only [Act.put, List.setIfInBounds_toArray, List.set_cons_zero, List.set_cons_succ]
                refine wpParts_skip ?_ ?_
                · rfl
                simp only [Act.put, List.setIfInBounds_toArray, List.set_cons_zero, List.set_cons_succ]
                refine wpParts_skip ?_ ?_
                · rfl
                simp only [Act.put, List.setIfInBounds_toArray, List.set_cons_zero, List.set_cons_succ]
                refine wpParts_det (by rfl) (fun W hE hN => ?_) ?_
                · go_simp; refine ⟨Below.refl _ _, ?_⟩; rfl
                simp only [Act.put, List.setIfInBounds_toArray, List.set_cons_zero, List.set_cons_succ]
                refine wpParts_det (by rfl) (fun W hE hN => ?_) ?_
                · go_simp; refine ⟨Below.refl _ _, ?_⟩; rfl
                simp only [Act.put, List.setIfInBounds_toArray, List.set_cons_zero, List.set_cons_succ]
                refine wpParts_end fun W1 hE1 hG1 => ?_
                have hcW1 := fun b o h => hE1.cell (p := ⟨b, o, none⟩) h
                have hfW1 := fun b o h => hE1.frozen (p := ⟨b, o, none⟩) h
                have HB3 := Lib.hid (HB2.out.trans (hE1.mono HB2.out.size))
                have HX3 := Lib.hid (HX2.out.ext hE1)
                clear hE1 hG1 c1 m1 hcW1 hfW1 l1
                go_wp2_with fail
                go_roundw
                case rel => exact ⟨k + 1, HLT.out, by go_num, by rw [HA2.out], by rw [HIS.out], HX3.out, HB3.out⟩
                case measure => simp [intOf]; have := HLT.out; omega
            | false =>
              have HIS := Lib.hid (show isI K key (k + 1) = true by rw [isI_succ, HS.out, HKD.out, decide_eq_true HQQ.out]; rfl)
              have hq1 : (x.key == key) = true := by rw [list_beq]; exact decide_eq_true HQQ.out
              go_wp2_with fail
              refine' wp_region_seq [.inl _, .inl _, .inl _, .inl _, .inl _, .inl _, .inl _, .inl _, .inl _, .inl _, .inl _, .inl _, .inl _, .inl _] (by kernel_rfl) (by kernel_rfl) ?main6
              case main6 =>
                refine wpParts_det (by rfl) (fun W hE hN => ?_) ?_
                · go_simp; refine ⟨Below.refl _ _, ?_⟩; rfl
                simp only [Act.put, List.setIfInBounds_toArray, List.set_cons_zero, List.set_cons_succ]
                refine wpParts_det (by rfl) (fun W hE hN => ?_) ?_
                · go_simp; refine ⟨Below.refl _ _, ?_⟩; rfl
                simp only [Act.put, List.setIfInBounds_toArray, List.set_cons_zero, List.set_cons_succ]
                refine wpParts_det (by rfl) (fun W hE hN => ?_) ?_
                · go_simp; refine ⟨Below.refl _ _, ?_⟩; rfl
                simp only [Act.put, List.setIfInBounds_toArray, List.set_cons_zero, List.set_cons_succ]
                refine wpParts_det (by rfl) (fun W hE hN => ?_) ?_
                · have hc := fun b o h => hE.cell (p := ⟨b, o, none⟩) h
                  go_simp; refine ⟨Below.refl _ _, ?_⟩; rfl
                simp only [Act.put, List.setIfInBounds_toArray, List.set_cons_zero, List.set_cons_succ]
                refine wpParts_det (by rfl) (fun W hE hN => ?_) ?_
                · go_simp; refine ⟨Below.refl _ _, ?_⟩; rfl
                simp only [Act.put, List.setIfInBounds_toArray, List.set_cons_zero, List.set_cons_succ]
                refine wpParts_det (by rfl) (fun W hE hN => ?_) ?_
                · go_simp; refine ⟨Below.refl _ _, ?_⟩; rfl
                simp only [Act.put, List.setIfInBounds_toArray, List.set_cons_zero, List.set_cons_succ]
                refine wpParts_det (by rfl) (fun W hE hN => ?_) ?_
                · go_simp; refine ⟨Below.refl _ _, ?_⟩; rfl
                simp only [Act.put, List.setIfInBounds_toArray, List.set_cons_zero, List.set_cons_succ]
                refine wpParts_det (by rfl) (fun W hE hN => ?_) ?_
                · have hc := fun b o h => hE.cell (p := ⟨b, o, none⟩) h
                  go_simp; refine ⟨Below.refl _ _, ?_⟩; rfl
                simp only [Act.put, List.setIfInBounds_toArray, List.set_cons_zero, List.set_cons_succ]
                refine wpParts_det (by rfl) (fun W hE hN => ?_) ?_
                · have k1 := conv_bytes (HK2.out.ext hE) 22 9 5 Try.underlying22 Try.underlying5 Try.underlying9; go_simp; refine ⟨Below.refl _ _, ?_⟩; rfl
                simp only [Act.put, List.setIfInBounds_toArray, List.set_cons_zero, List.set_cons_succ]
                refine wpParts_det (by rfl) (fun W hE hN => ?_) ?_
                · go_simp; refine ⟨Below.refl _ _, ?_⟩; rfl
                simp only [Act.put, List.setIfInBounds_toArray, List.set_cons_zero, List.set_cons_succ]
                refine wpParts_det (by rfl) (fun W hE hN => ?_) ?_
                · have k1 := conv_bytes (HQ2.out.ext hE) 22 9 5 Try.underlying22 Try.underlying5 Try.underlying9; go_simp; refine ⟨Below.refl _ _, ?_⟩; rfl
                simp only [Act.put, List.setIfInBounds_toArray, List.set_cons_zero, List.set_cons_succ]
                refine wpParts_det (by rfl) (fun W hE hN => ?_) ?_
                · go_simp; refine ⟨Below.refl _ _, ?_⟩; rfl
                simp only [Act.put, List.setIfInBounds_toArray, List.set_cons_zero, List.set_cons_succ]
                refine wpParts_det (by rfl) (fun W hE hN => ?_) ?_
                · go_simp; refine ⟨Below.refl _ _, ?_⟩; rfl
                simp only [Act.put, List.setIfInBounds_toArray, List.set_cons_zero, List.set_cons_succ]
                refine wpParts_det (by rfl) (fun W hE hN => ?_) ?_
                · go_simp; refine ⟨Below.refl _ _, ?_⟩; rfl
                simp only [Act.put, List.setIfInBounds_toArray, List.set_cons_zero, List.set_cons_succ]
                refine wpParts_end fun W1 hE1 hG1 => ?_
                have hcW1 := fun b o h => hE1.cell (p := ⟨b, o, none⟩) h
                have hfW1 := fun b o h => hE1.frozen (p := ⟨b, o, none⟩) h
                have HB3 := Lib.hid (HB2.out.trans (hE1.mono HB2.out.size))
                have HX3 := Lib.hid (HX2.out.ext hE1)
                clear hE1 hG1 c1 m1 hcW1 hfW1 l1
                go_wp2_with fail
                go_roundw
                case rel => exact ⟨k + 1, HLT.out, by go_num, by rw [HA2.out], by rw [HIS.out], HX3.out, HB3.out⟩
                case measure => simp [intOf]; have := HLT.out; omega
          | false =>
            have HQQ := Lib.hid (HQQ.out.2 rfl)
            cases s with
            | true =>
              have HIS := Lib.hid (show isI K key (k + 1) = true by rw [isI_succ, HS.out, Bool.true_or])
              go_wp2_with fail
              refine' wp_region_seq [.inl _, .inl _, .inl undef, .inl undef, .inl undef, .inl undef, .inl undef, .inl undef, .inl undef, .inl undef, .inl undef, .inl undef, .inl _, .inl _] (by kernel_rfl) (by kernel_rfl) ?main7
              case main7 =>
                refine wpParts_det (by rfl) (fun W hE hN => ?_) ?_
                · go_simp; refine ⟨Below.refl _ _, ?_⟩; rfl
                simp only [Act.put, List.setIfInBounds_toArray, List.set_cons_zero, List.set_cons_succ]
                refine wpParts_det (by rfl) (fun W hE hN => ?_) ?_
                · go_simp; refine ⟨Below.refl _ _, ?_⟩; rfl
                simp only [Act.put, List.setIfInBounds_toArray, List.set_cons_zero, List.set_cons_succ]
                refine wpParts_skip ?_ ?_
                · rfl
                simp only [Act.put, List.setIfInBounds_toArray, List.set_cons_zero, List.set_cons_succ]
                refine wpParts_skip ?_ ?_
                · rfl
                simp only [Act.put, List.setIfInBounds_toArray, List.set_cons_zero, List.set_cons_succ]
                refine wpParts_skip ?_ ?_
                · rfl
                simp only [Act.put, List.setIfInBounds_toArray, List.set_cons_zero, List.set_cons_succ]
                refine wpParts_skip ?_ ?_
                · rfl
                simp only [Act.put, List.setIfInBounds_toArray, List.set_cons_zero, List.set_cons_succ]
                refine wpParts_skip ?_ ?_
                · rfl
                simp only [Act.put, List.setIfInBounds_toArray, List.set_cons_zero, List.set_cons_succ]
                refine wpParts_skip ?_ ?_
                · rfl
                simp only [Act.put, List.setIfInBounds_toArray, List.set_cons_zero, List.set_cons_succ]
                refine wpParts_skip ?_ ?_
                · rfl
                simp only [Act.put, List.setIfInBounds_toArray, List.set_cons_zero, List.set_cons_succ]
                refine wpParts_skip ?_ ?_
                · rfl
                simp only [Act.put, List.setIfInBounds_toArray, List.set_cons_zero, List.set_cons_succ]
                refine wpParts_skip ?_ ?_
                · rfl
                simp only [Act.put, List.setIfInBounds_toArray, List.set_cons_zero, List.set_cons_succ]
                refine wpParts_skip ?_ ?_
                · rfl
                simp only [Act.put, List.setIfInBounds_toArray, List.set_cons_zero, List.set_cons_succ]
                refine wpParts_det (by rfl) (fun W hE hN => ?_) ?_
                · go_simp; refine ⟨Below.refl _ _, ?_⟩; rfl
                simp only [Act.put, List.setIfInBounds_toArray, List.set_cons_zero, List.set_cons_succ]
                refine wpParts_det (by rfl) (fun W hE hN => ?_) ?_
                · go_simp; refine ⟨Below.refl _ _, ?_⟩; rfl
                simp only [Act.put, List.setIfInBounds_toArray, List.set_cons_zero, List.set_cons_succ]
                refine wpParts_end fun W1 hE1 hG1 => ?_
                have hcW1 := fun b o h => hE1.cell (p := ⟨b, o, none⟩) h
                have hfW1 := fun b o h => hE1.frozen (p := ⟨b, o, none⟩) h
                have HB3 := Lib.hid (HB2.out.trans (hE1.mono HB2.out.size))
                have HX3 := Lib.hid (HX2.out.ext hE1)
                clear hE1 hG1 c1 m1 hcW1 hfW1 l1
                go_wp2_with fail
                go_roundw
                case rel => exact ⟨k + 1, HLT.out, by go_num, by rw [HA2.out], by rw [HIS.out], HX3.out, HB3.out⟩
                case measure => simp [intOf]; have := HLT.out; omega
            | false =>
              have HIS := Lib.hid (show isI K key (k + 1) = false by rw [isI_succ, HS.out, HKD.out, decide_eq_false HQQ.out]; rfl)
              have hq1 : (x.key == key) = false := by rw [list_beq]; exact decide_eq_false HQQ.out
              go_wp2_with fail
              refine' wp_region_seq [.inl _, .inl _, .inl _, .inl _, .inl _, .inl _, .inl _, .inl _, .inl _, .inl _, .inl _, .inl _, .inl _, .inl _] (by kernel_rfl) (by kernel_rfl) ?main8
              case main8 =>
                refine wpParts_det (by rfl) (fun W hE hN => ?_) ?_
                · go_simp; refine ⟨Below.refl _ _, ?_⟩; rfl
                simp only [Act.put, List.setIfInBounds_toArray, List.set_cons_zero, List.set_cons_succ]
                refine wpParts_det (by rfl) (fun W hE hN => ?_) ?_
                · go_simp; refine ⟨Below.refl _ _, ?_⟩; rfl
                simp only [Act.put, List.setIfInBounds_toArray, List.set_cons_zero, List.set_cons_succ]
                refine wpParts_det (by rfl) (fun W hE hN => ?_) ?_
                · go_simp; refine ⟨Below.refl _ _, ?_⟩; rfl
                simp only [Act.put, List.setIfInBounds_toArray, List.set_cons_zero, List.set_cons_succ]
                refine wpParts_det (by rfl) (fun W hE hN => ?_) ?_
                · have hc := fun b o h => hE.cell (p := ⟨b, o, none⟩) h
                  go_simp; refine ⟨Below.refl _ _, ?_⟩; rfl
                simp only [Act.put, List.setIfInBounds_toArray, List.set_cons_zero, List.set_cons_succ]
                refine wpParts_det (by rfl) (fun W hE hN => ?_) ?_
                · go_simp; refine ⟨Below.refl _ _, ?_⟩; rfl
                simp only [Act.put, List.setIfInBounds_toArray, List.set_cons_zero, List.set_cons_succ]
                refine wpParts_det (by rfl) (fun W hE hN => ?_) ?_
                · go_simp; refine ⟨Below.refl _ _, ?_⟩; rfl
                simp only [Act.put, List.setIfInBounds_toArray, List.set_cons_zero, List.set_cons_succ]
                refine wpParts_det (by rfl) (fun W hE hN => ?_) ?_
                · go_simp; refine ⟨Below.refl _ _, ?_⟩; rfl
                simp only [Act.put, List.setIfInBounds_toArray, List.set_cons_zero, List.set_cons_succ]
                refine wpParts_det (by rfl) (fun W hE hN => ?_) ?_
                · have hc := fun b o h => hE.cell (p := ⟨b, o, none⟩) h
                  go_simp; refine ⟨Below.refl _ _, ?_⟩; rfl
                simp only [Act.put, List.setIfInBounds_toArray, List.set_cons_zero, List.set_cons_succ]
                refine wpParts_det (by rfl) (fun W hE hN => ?_) ?_
                · have k1 := conv_bytes (HK2.out.ext hE) 22 9 5 Try.underlying22 Try.underlying5 Try.underlying9; go_simp; refine ⟨Below.refl _ _, ?_⟩; rfl
                simp only [Act.put, List.setIfInBounds_toArray, List.set_cons_zero, List.set_cons_succ]
                refine wpParts_det (by rfl) (fun W hE hN => ?_) ?_
                · go_simp; refine ⟨Below.refl _ _, ?_⟩; rfl
                simp only [Act.put, List.setIfInBounds_toArray, List.set_cons_zero, List.set_cons_succ]
                refine wpParts_det (by rfl) (fun W hE hN => ?_) ?_
                · have k1 := conv_bytes (HQ2.out.ext hE) 22 9 5 Try.underlying22 Try.underlying5 Try.underlying9; go_simp; refine ⟨Below.refl _ _, ?_⟩; rfl
                simp only [Act.put, List.setIfInBounds_toArray, List.set_cons_zero, List.set_cons_succ]
                refine wpParts_det (by rfl) (fun W hE hN => ?_) ?_
                · go_simp; refine ⟨Below.refl _ _, ?_⟩; rfl
                simp only [Act.put, List.setIfInBounds_toArray, List.set_cons_zero, List.set_cons_succ]
                refine wpParts_det (by rfl) (fun W hE hN => ?_) ?_
                · go_simp; refine ⟨Below.refl _ _, ?_⟩; rfl
                simp only [Act.put, List.setIfInBounds_toArray, List.set_cons_zero, List.set_cons_succ]
                refine wpParts_det (by rfl) (fun W hE hN => ?_) ?_
                · go_simp; refine ⟨Below.refl _ _, ?_⟩; rfl
                simp only [Act.put, List.setIfInBounds_toArray, List.set_cons_zero, List.set_cons_succ]
                refine wpParts_end fun W1 hE1 hG1 => ?_
                have hcW1 := fun b o h => hE1.cell (p := ⟨b, o, none⟩) h
                have hfW1 := fun b o h => hE1.frozen (p := ⟨b, o, none⟩) h
                have HB3 := Lib.hid (HB2.out.trans (hE1.mono HB2.out.size))
                have HX3 := Lib.hid (HX2.out.ext hE1)
                clear hE1 hG1 c1 m1 hcW1 hfW1 l1
                go_wp2_with fail
                go_roundw
                case rel => exact ⟨k + 1, HLT.out, by go_num, by rw [HA2.out], by rw [HIS.out], HX3.out, HB3.out⟩
                case measure => simp [intOf]; have := HLT.out; omega
      · obtain rfl : k = il := by omega
        have hlt' : ¬ (k : Int) < (k : Int) := by omega
        clear hlt hk hbel
        go_wp2_with fail
        go_loopw [6, 7, 9] (fun av bv ix wr => av = .int .i64 (a : Nat) ∧ bv = .bool s ∧ ix = .int .i64 0 ∧ Blk wr w.heap.size [.bool true, .slice ia k ic, .slice ka 0 kc] 28 ∧ Below w.heap.size w wr) (fun _ _ ix _ => 0)
        case atStart => exact ⟨rfl, rfl, rfl, HX.out, HB.out⟩
        clear c0 m0 l0
        case round =>
          obtain ⟨rfl, rfl, rfl, hq, hbel⟩ := hrel
          have HB5 := Lib.hid hbel
          have c0 := hq.cells
          have m0 := hq.marks
          have l0 := hq.lt
          clear hq hbel
          go_wp2
          go_ret2
          exact ⟨by rw [HA.out, HS.out]; rfl, HB5.out⟩
  | false =>
    obtain ⟨hi0, hpl⟩ := HPR.out.2 rfl
    obtain ⟨K, hK⟩ : ∃ K, N.kids.map (·.key) = K := ⟨_, rfl⟩
    have hil : il = 0 := by rw [← E1.out, hi0]; rfl
    rw [hK, E2.out] at hpl
    rw [hpl]
    have HKK := Lib.hid hK
    subst hil
    clear hi0 hpl HPR hK
    go_enter Try.func24, Try.ntmps24
    go_wp2_with fail
    go_loopw [6, 7, 8] (fun av bv ix wr => av = .int .i64 0 ∧ bv = .bool false ∧ ix = .int .i64 0 ∧ Blk wr w.heap.size [.bool false, .slice ia 0 ic, .slice ka kl kc] 28 ∧ Below w.heap.size w wr) (fun _ _ ix _ => 0)
    case atStart => exact ⟨rfl, rfl, rfl, HQ0.out, HB0.out⟩
    case round =>
      obtain ⟨rfl, rfl, rfl, hq, hbel⟩ := hrel
      have HB5 := Lib.hid hbel
      have HX5 := Lib.hid hq
      have c0 := hq.cells
      have m0 := hq.marks
      have l0 := hq.lt
      clear hq hbel
      go_wp2_with fail
      go_loopw [6, 7, 9] (fun av bv ix wr => TryRpK w [.bool false, .slice ia 0 ic, .slice ka kl kc] K key kl av bv ix wr) (fun _ _ ix _ => kl - (intOf ix).toNat)
      case atStart => exact ⟨0, Nat.zero_le _, rfl, rfl, rfl, HX5.out, HB5.out⟩
      clear c0 m0 l0
      case round =>
        obtain ⟨k, hk, rfl, rfl, rfl, hq, hbel⟩ := hrel
        have HB := Lib.hid hbel
        have c0 := hq.cells
        have m0 := hq.marks
        have l0 := hq.lt
        have HX := Lib.hid hq
        obtain ⟨a, ha⟩ : ∃ a, atK K key k = a := ⟨_, rfl⟩
        obtain ⟨s, hs⟩ : ∃ s, isI K key k = s := ⟨_, rfl⟩
        rw [ha, hs]
        have HA := Lib.hid ha
        have HS := Lib.hid hs
        clear hq ha hs
        by_cases hlt : k < kl
        · obtain ⟨x, hx⟩ : ∃ x, N.kids[k]? = some x := ⟨_, List.getElem?_eq_getElem (by have := E2.out; omega)⟩
          obtain ⟨b, o, xa, xl, xc, rfl, hb1, hs1, d0, d1, d2, d3, d4, d5, d6, d7, h4, h5, h6⟩ := (HN.out.ext HB.out).kids.hat k x hx
          have HKD := Lib.hid (show K.getD k [] = x.key by rw [← HKK.out, List.getD_eq_getElem?_getD, List.getElem?_map, hx]; rfl)
          have hcall := Try_rAhead qa xa qn qc xl xc key x.key _ (HKY.out.ext HB.out) h4.at_
          have HK1 := Lib.hid h4.at_
          have hlt' : (k : Int) < (kl : Int) := by omega
          have HLT := Lib.hid hlt
          have hk0 : ¬ (k : Int) < 0 := by omega
          have HC := Lib.hid hcall
          clear hx h4 h5 h6 hs1 hk hlt hbel hcall d1 d2 d3 d4 d5 d6 d7
          obtain ⟨r, hr⟩ : ∃ r, aheadB key x.key = r := ⟨_, rfl⟩
          rw [hr] at HC
          obtain ⟨q, hqq⟩ : ∃ q, decide (x.key = key) = q := ⟨_, rfl⟩
          have HRR := Lib.hid hr
          go_wp2_with fail
          (with_reducible refine HC.out.mono ?_); rintro e w1 ⟨rfl, hbe⟩
          have HX2 := Lib.hid (HX.out.ext hbe)
          have HB2 := Lib.hid (HB.out.trans (hbe.mono HB.out.size))
          have HK2 := Lib.hid (HK1.out.ext hbe)
          have HQ2 := Lib.hid ((HKY.out.ext HB.out).ext hbe)
          have d0' := ((after hbe).1 b (o + k * 8) hb1).trans d0
          have hb1' : b < w1.heap.size := Nat.lt_of_lt_of_le hb1 hbe.size
          have c1 := HX2.out.cells
          have m1 := HX2.out.marks
          have l1 := HX2.out.lt
          clear hbe c0 m0 l0 d0 hb1 HC HK1 HX hr
          have HQQ := Lib.hid (show (q = true → x.key = key) ∧ (q = false → ¬ x.key = key) by subst hqq; exact ⟨of_decide_eq_true, of_decide_eq_false⟩)
          clear hqq
          cases r with
          | true =>
            have HA2 := Lib.hid (show atK K key (k + 1) = a by unfold atK; rw [HKD.out, HRR.out, if_pos rfl, HA.out])
            cases q with
            | true =>
              have HQQ := Lib.hid (HQQ.out.1 rfl)
              cases s with
              | true =>
                have HIS := Lib.hid (show isI K key (k + 1) = true by rw [isI_succ, HS.out, Bool.true_or])
                go_wp2_with fail
                refine' wp_region_seq [.inl _, .inl _, .inl undef, .inl undef, .inl undef, .inl undef, .inl undef, .inl undef, .inl undef, .inl undef, .inl undef, .inl undef, .inl _, .inl _] (by kernel_rfl) (by kernel_rfl) ?main9
                case main9 =>
                  refine wpParts_det (by rfl) (fun W hE hN => ?_) ?_
                  · go_simp; refine ⟨Below.refl _ _, ?_⟩; rfl
                  simp only [Act.put, List.setIfInBounds_toArray, List.set_cons_zero, List.set_cons_succ]
                  refine wpParts_det (by rfl) (fun W hE hN => ?_) ?_
                  · go_simp; refine ⟨Below.refl _ _, ?_⟩; rfl
                  simp only [Act.put, List.setIfInBounds_toArray, List.set_cons_zero, List.set_cons_succ]
                  refine wpParts_skip ?_ ?_
                  · rfl
                  simp only [Act.put, List.setIfInBounds_toArray, List.set_cons_zero, List.set_cons_succ]
                  refine wpParts_skip ?_ ?_
                  · rfl
                  simp only [Act.put, List.setIfInBounds_toArray, List.set_cons_zero, List.set_cons_succ]
                  refine wpParts_skip ?_ ?_
                  · rfl
                  simp only [Act.put, List.setIfInBounds_toArray, List.set_cons_zero, List.set_cons_succ]
                  refine wpParts_skip ?_ ?_
                  · rfl
                  simp only [Act.put, List.setIfInBounds_toArray, List.set_cons_zero, List.set_cons_succ]
                  refine wpParts_skip ?_ ?_
                  · rfl
                  simp only [Act.put, List.setIfInBounds_toArray, List.set_cons_zero, List.set_cons_succ]
                  refine wpParts_skip ?_ ?_
                  · rfl
                  simp only [Act.put, List.setIfInBounds_toArray, List.set_cons_zero, List.set_cons_succ]
                  refine wpParts_skip ?_ ?_
                  · rfl
                  simp only [Act.put, List.setIfInBounds_toArray, List.set_cons_zero, List.set_cons_succ]
                  refine wpParts_skip ?_ ?_
                  · rfl
                  simp only [Act.put, List.setIfInBounds_toArray, List.set_cons_zero, List.set_cons_succ]
                  refine wpParts_skip ?_ ?_
                  · rfl
                  simp only [Act.put, List.setIfInBounds_toArray, List.set_cons_zero, List.set_cons_succ]
                  refine wpParts_skip ?_ ?_
                  · rfl
                  simp only [Act.put, List.setIfInBounds_toArray, List.set_cons_zero, List.set_cons_succ]
                  refine wpParts_det (by rfl) (fun W hE hN => ?_) ?_
                  · go_simp; refine ⟨Below.refl _ _, ?_⟩; rfl
                  simp only [Act.put, List.setIfInBounds_toArray, List.set_cons_zero, List.set_cons_succ]
                  refine wpParts_det (by rfl) (fun W hE hN => ?_) ?_
                  · go_simp; refine ⟨Below.refl _ _, ?_⟩; rfl
                  simp only [Act.put, List.setIfInBounds_toArray, List.set_cons_zero, List.set_cons_succ]
                  refine wpParts_end fun W1 hE1 hG1 => ?_
                  have hcW1 := fun b o h => hE1.cell (p := ⟨b, o, none⟩) h
                  have hfW1 := fun b o h => hE1.frozen (p := ⟨b, o, none⟩) h
                  have HB3 := Lib.hid (HB2.out.trans (hE1.mono HB2.out.size))
                  have HX3 := Lib.hid (HX2.out.ext hE1)
                  clear hE1 hG1 c1 m1 hcW1 hfW1 l1
                  go_wp2_with fail
                  go_roundw
                  case rel => exact ⟨k + 1, HLT.out, by go_num, by rw [HA2.out], by rw [HIS.out], HX3.out, HB3.out⟩
                  case measure => simp [intOf]; have := HLT.out; omega
              | false =>
                have HIS := Lib.hid (show isI K key (k + 1) = true by rw [isI_succ, HS.out, HKD.out, decide_eq_true HQQ.out]; rfl)
                have hq1 : (x.key == key) = true := by rw [list_beq]; exact decide_eq_true HQQ.out
                go_wp2_with fail
                refine' wp_region_seq [.inl _, .inl _, .inl _, .inl _, .inl _, .inl _, .inl _, .inl _, .inl _, .inl _, .inl _, .inl _, .inl _, .inl _] (by kernel_rfl) (by kernel_rfl) ?main10
                case main10 =>
                  refine wpParts_det (by rfl) (fun W hE hN => ?_) ?_
                  · go_simp; refine ⟨Below.refl _ _, ?_⟩; rfl
                  simp only [Act.put, List.setIfInBounds_toArray, List.set_cons_zero, List.set_cons_succ]
                  refine wpParts_det (by rfl) (fun W hE hN => ?_) ?_
                  · go_simp; refine ⟨Below.refl _ _, ?_⟩; rfl
                  simp only [Act.put, List.setIfInBounds_toArray, List.set_cons_zero, List.set_cons_succ]
                  refine wpParts_det (by rfl) (fun W hE hN => ?_) ?_
                  · go_simp; refine ⟨Below.refl _ _, ?_⟩; rfl
                  simp only [Act.put, List.setIfInBounds_toArray, List.set_cons_zero, List.set_cons_succ]
                  refine wpParts_det (by rfl) (fun W hE hN => ?_) ?_
                  · have hc := fun b o h => hE.cell (p := ⟨b, o, none⟩) h
                    go_simp; refine ⟨Below.refl _ _, ?_⟩; rfl
                  simp only [Act.put, List.setIfInBounds_toArray, List.set_cons_zero, List.set_cons_succ]
                  refine wpParts_det (by rfl) (fun W hE hN => ?_) ?_
                  · go_simp; refine ⟨Below.refl _ _, ?_⟩; rfl
                  simp only [Act.put, List.setIfInBounds_toArray, List.set_cons_zero, List.set_cons_succ]
                  refine wpParts_det (by rfl) (fun W hE hN => ?_) ?_
                  · go_simp; refine ⟨Below.refl _ _, ?_⟩; rfl
                  simp only [Act.put, List.setIfInBounds_toArray, List.set_cons_zero, List.set_cons_succ]
                  refine wpParts_det (by rfl) (fun W hE hN => ?_) ?_
                  · go_simp; refine ⟨Below.refl _ _, ?_⟩; rfl
                  simp only [Act.put, List.setIfInBounds_toArray, List.set_cons_zero, List.set_cons_succ]
                  refine wpParts_det (by rfl) (fun W hE hN => ?_) ?_
                  · have hc := fun b o h => hE.cell (p := ⟨b, o, none⟩) h
                    go_simp; refine ⟨Below.refl _ _, ?_⟩; rfl
                  simp only [Act.put, List.setIfInBounds_toArray, List.set_cons_zero, List.set_cons_succ]
                  refine wpParts_det (by rfl) (fun W hE hN => ?_) ?_
                  · have k1 := conv_bytes (HK2.out.ext hE) 22 9 5 Try.underlying22 Try.underlying5 Try.underlying9; go_simp; refine ⟨Below.refl _ _, ?_⟩; rfl
                  simp only [Act.put, List.setIfInBounds_toArray, List.set_cons_zero, List.set_cons_succ]
                  refine wpParts_det (by rfl) (fun W hE hN => ?_) ?_
                  · go_simp; refine ⟨Below.refl _ _, ?_⟩; rfl
                  simp only [Act.put, List.setIfInBounds_toArray, List.set_cons_zero, List.set_cons_succ]
                  refine wpParts_det (by rfl) (fun W hE hN => ?_) ?_
                  · have k1 := conv_bytes (HQ2.out.ext hE) 22 9 5 Try.underlying22 Try.underlying5 Try.underlying9; go_simp; refine ⟨Below.refl _ _, ?_⟩; rfl
                  simp only [Act.put, List.setIfInBounds_toArray, List.set_cons_zero, List.set_cons_succ]
                  refine wpParts_det (by rfl) (fun W hE hN => ?_) ?_
                  · go_simp; refine ⟨Below.refl _ _, ?_⟩; rfl
                  simp only [Act.put, List.setIfInBounds_toArray, List.set_cons_zero, List.set_cons_succ]
                  refine wpParts_det (by rfl) (fun W hE hN => ?_) ?_
                  · go_simp; refine ⟨Below.refl _ _, ?_⟩; rfl
                  simp only [Act.put, List.setIfInBounds_toArray, List.set_cons_zero, List.set_cons_succ]
                  refine wpParts_det (by rfl) (fun W hE hN => ?_) ?_
                  · go_simp; refine ⟨Below.refl _ _, ?_⟩; rfl
                  simp only [Act.put, List.setIfInBounds_toArray, List.set_cons_zero, List.set_cons_succ]
                  refine wpParts_end fun W1 hE1 hG1 => ?_
                  have hcW1 := fun b o h => hE1.cell (p := ⟨b, o, none⟩) h
                  have hfW1 := fun b o h => hE1.frozen (p := ⟨b, o, none⟩) h
                  have HB3 := Lib.hid (HB2.out.trans (hE1.mono HB2.out.size))
                  have HX3 := Lib.hid (HX2.out.ext hE1)
                  clear hE1 hG1 c1 m1 hcW1 hfW1 l1
                  go_wp2_with fail
                  go_roundw
                  case rel => exact ⟨k + 1, HLT.out, by go_num, by rw [HA2.out], by rw [HIS.out], HX3.out, HB3.out⟩
                  case measure => simp [intOf]; have := HLT.out; omega
            | false =>
              have HQQ := Lib.hid (HQQ.out.2 rfl)
              cases s with
              | true =>
                have HIS := Lib.hid (show isI K key (k + 1) = true by rw [isI_succ, HS.out, Bool.true_or])
                go_wp2_with fail
                refine' wp_region_seq [.inl _, .inl _, .inl undef, .inl undef, .inl undef, .inl undef, .inl undef, .inl undef, .inl undef, .inl undef, .inl undef, .inl undef, .inl _, .inl _] (by kernel_rfl) (by kernel_rfl) ?main11
                case main11 =>
                  refine wpParts_det (by rfl) (fun W hE hN => ?_) ?_
                  · go_simp; refine ⟨Below.refl _ _, ?_⟩; rfl
                  simp only [Act.put, List.setIfInBounds_toArray, List.set_cons_zero, List.set_cons_succ]
                  refine wpParts_det (by rfl) (fun W hE hN => ?_) ?_
                  · go_simp; refine ⟨Below.refl _ _, ?_⟩; rfl
                  simp only [Act.put, List.setIfInBounds_toArray, List.set_cons_zero, List.set_cons_succ]
                  refine wpParts_skip ?_ ?_
                  · rfl
                  simp only [Act.put, List.setIfInBounds_toArray, List.set_cons_zero, List.set_cons_succ]
                  refine wpParts_skip ?_ ?_
                  · rfl
                  simp only [Act.put, List.setIfInBounds_toArray, List.set_cons_zero, List.set_cons_succ]
                  refine wpParts_skip ?_ ?_
                  · rfl
                  simp only [Act.put, List.setIfInBounds_toArray, List.set_cons_zero, List.set_cons_succ]
                  refine wpParts_skip ?_ ?_
                  · rfl
                  simp only [Act.put, List.setIfInBounds_toArray, List.set_cons_zero, List.set_cons_succ]
                  refine wpParts_skip ?_ ?_
                  · rfl
                  simp only [Act.put, List.setIfInBounds_toArray, List.set_cons_zero, List.set_cons_succ]
                  refine wpParts_skip ?_ ?_
                  · rfl
                  simp only [Act.put, List.setIfInBounds_toArray, List.set_cons_zero, List.set_cons_succ]
                  refine wpParts_skip ?_ ?_
                  · rfl
                  simp only [Act.put, List.setIfInBounds_toArray, List.set_cons_zero, List.set_cons_succ]
                  refine wpParts_skip ?_ ?_
                  · rfl
                  simp only [Act.put, List.setIfInBounds_toArray, List.set_cons_zero, List.set_cons_succ]
                  refine wpParts_skip ?_ ?_
                  · rfl
                  simp only [Act.put, List.setIfInBounds_toArray, List.set_cons_zero, List.set_cons_succ]
                  refine wpParts_skip ?_ ?_
                  · rfl
                  simp only [Act.put, List.setIfInBounds_toArray, List.set_cons_zero, List.set_cons_succ]
                  refine wpParts_det (by rfl) (fun W hE hN => ?_) ?_
                  · go_simp; refine ⟨Below.refl _ _, ?_⟩; rfl
                  simp only [Act.put, List.setIfInBounds_toArray, List.set_cons_zero, List.set_cons_succ]
                  refine wpParts_det (by rfl) (fun W hE hN => ?_) ?_
                  · go_simp; refine ⟨Below.refl _ _, ?_⟩; rfl
                  simp only [Act.put, List.setIfInBounds_toArray, List.set_cons_zero, List.set_cons_succ]
                  refine wpParts_end fun W1 hE1 hG1 => ?_
                  have hcW1 := fun b o h => hE1.cell (p := ⟨b, o, none⟩) h
                  have hfW1 := fun b o h => hE1.frozen (p := ⟨b, o, none⟩) h
                  have HB3 := Lib.hid (HB2.out.trans (hE1.mono HB2.out.size))
                  have HX3 := Lib.hid (HX2.out.ext hE1)
                  clear hE1 hG1 c1 m1 hcW1 hfW1 l1
                  go_wp2_with fail
                  go_roundw
                  case rel => exact ⟨k + 1, HLT.out, by go_num, by rw [HA2.out], by rw [HIS.out], HX3.out, HB3.out⟩
                  case measure => simp [intOf]; have := HLT.out; omega
              | false =>
                have HIS := Lib.hid (show isI K key (k + 1) = false by rw [isI_succ, HS.out, HKD.out, decide_eq_false HQQ.out]; rfl)
                have hq1 : (x.key == key) = false := by rw [list_beq]; exact decide_eq_false HQQ.out
                go_wp2_with fail
                refine' wp_region_seq [.inl _, .inl _, .inl _, .inl _, .inl _, .inl _, .inl _, .inl _, .inl _, .inl _, .inl _, .inl _, .inl _, .inl _] (by kernel_rfl) (by kernel_rfl) ?main12
                case main12 =>
                  refine wpParts_det (by rfl) (fun W hE hN => ?_) ?_
                  · go_simp; refine ⟨Below.refl _ _, ?_⟩; rfl
                  simp only [Act.put, List.setIfInBounds_toArray, List.set_cons_zero, List.set_cons_succ]
                  refine wpParts_det (by rfl) (fun W hE hN => ?_) ?_
                  · go_simp; refine ⟨Below.refl _ _, ?_⟩; rfl
                  simp only [Act.put, List.setIfInBounds_toArray, List.set_cons_zero, List.set_cons_succ]
                  refine wpParts_det (by rfl) (fun W hE hN => ?_) ?_
                  · go_simp; refine ⟨Below.refl _ _, ?_⟩; rfl
                  simp only [Act.put, List.setIfInBounds_toArray, List.set_cons_zero, List.set_cons_succ]
                  refine wpParts_det (by rfl) (fun W hE hN => ?_) ?_
                  · have hc := fun b o h => hE.cell (p := ⟨b, o, none⟩) h
                    go_simp; refine ⟨Below.refl _ _, ?_⟩; rfl
                  simp only [Act.put, List.setIfInBounds_toArray, List.set_cons_zero, List.set_cons_succ]
                  refine wpParts_det (by rfl) (fun W hE hN => ?_) ?_
                  · go_simp; refine ⟨Below.refl _ _, ?_⟩; rfl
                  simp only [Act.put, List.setIfInBounds_toArray, List.set_cons_zero, List.set_cons_succ]
                  refine wpParts_det (by rfl) (fun W hE hN => ?_) ?_
                  · go_simp; refine ⟨Below.refl _ _, ?_⟩; rfl
                  simp only [Act.put, List.setIfInBounds_toArray, List.set_cons_zero, List.set_cons_succ]
                  refine wpParts_det (by rfl) (fun W hE hN => ?_) ?_
                  · go_simp; refine ⟨Below.refl _ _, ?_⟩; rfl
                  simp only [Act.put, List.setIfInBounds_toArray, List.set_cons_zero, List.set_cons_succ]
                  refine wpParts_det (by rfl) (fun W hE hN => ?_) ?_
                  · have hc := fun b o h => hE.cell (p := ⟨b, o, none⟩) h
                    go_simp; refine ⟨Below.refl _ _, ?_⟩; rfl
                  simp only [Act.put, List.setIfInBounds_toArray, List.set_cons_zero, List.set_cons_succ]
                  refine wpParts_det (by rfl) (fun W hE hN => ?_) ?_
                  · have k1 := conv_bytes (HK2.out.ext hE) 22 9 5 Try.underlying22 Try.underlying5 Try.underlying9; go_simp; refine ⟨Below.refl _ _, ?_⟩; rfl
                  simp only [Act.put, List.setIfInBounds_toArray, List.set_cons_zero, List.set_cons_succ]
                  refine wpParts_det (by rfl) (fun W hE hN => ?_) ?_
                  · go_simp; refine ⟨Below.refl _ _, ?_⟩; rfl
                  simp only [Act.put, List.setIfInBounds_toArray, List.set_cons_zero, List.set_cons_succ]
                  refine wpParts_det (by rfl) (fun W hE hN => ?_) ?_
                  · have k1 := conv_bytes (HQ2.out.ext hE) 22 9 5 Try.underlying22 Try.underlying5 Try.underlying9; go_simp; refine ⟨Below.refl _ _, ?_⟩; rfl
                  simp only [Act.put, List.setIfInBounds_toArray, List.set_cons_zero, List.set_cons_succ]
                  refine wpParts_det (by rfl) (fun W hE hN => ?_) ?_
                  · go_simp; refine ⟨Below.refl _ _, ?_⟩; rfl
                  simp only [Act.put, List.setIfInBounds_toArray, List.set_cons_zero, List.set_cons_succ]
                  refine wpParts_det (by rfl) (fun W hE hN => ?_) ?_
                  · go_simp; refine ⟨Below.refl _ _, ?_⟩; rfl
                  simp only [Act.put, List.setIfInBounds_toArray, List.set_cons_zero, List.set_cons_succ]
                  refine wpParts_det (by rfl) (fun W hE hN => ?_) ?_
                  · go_simp; refine ⟨Below.refl _ _, ?_⟩; rfl
                  simp only [Act.put, List.setIfInBounds_toArray, List.set_cons_zero, List.set_cons_succ]
                  refine wpParts_end fun W1 hE1 hG1 => ?_
                  have hcW1 := fun b o h => hE1.cell (p := ⟨b, o, none⟩) h
                  have hfW1 := fun b o h => hE1.frozen (p := ⟨b, o, none⟩) h
                  have HB3 := Lib.hid (HB2.out.trans (hE1.mono HB2.out.size))
                  have HX3 := Lib.hid (HX2.out.ext hE1)
                  clear hE1 hG1 c1 m1 hcW1 hfW1 l1
                  go_wp2_with fail
                  go_roundw
                  case rel => exact ⟨k + 1, HLT.out, by go_num, by rw [HA2.out], by rw [HIS.out], HX3.out, HB3.out⟩
                  case measure => simp [intOf]; have := HLT.out; omega
          | false =>
            have HA2 := Lib.hid (show atK K key (k + 1) = k by unfold atK; rw [HKD.out, HRR.out, if_neg Bool.false_ne_true])
            cases q with
            | true =>
              have HQQ := Lib.hid (HQQ.out.1 rfl)
              cases s with
              | true =>
                have HIS := Lib.hid (show isI K key (k + 1) = true by rw [isI_succ, HS.out, Bool.true_or])
                go_wp2_with fail
                refine' wp_region_seq [.inl _, .inl _, .inl undef, .inl undef, .inl undef, .inl undef, .inl undef, .inl undef, .inl undef, .inl undef, .inl undef, .inl undef, .inl _, .inl _] (by kernel_rfl) (by kernel_rfl) ?main13
                case main13 =>
                  refine wpParts_det (by rfl) (fun W hE hN => ?_) ?_
                  · go_simp; refine ⟨Below.refl _ _, ?_⟩; rfl
                  simp only [Act.put, List.setIfInBounds_toArray, List.set_cons_zero, List.set_cons_succ]
                  refine wpParts_det (by rfl) (fun W hE hN => ?_) ?_
                  · go_simp; refine ⟨Below.refl _ _, ?_⟩; rfl
                  simp only [Act.put, List.setIfInBounds_toArray, List.set_cons_zero, List.set_cons_succ]
                  refine wpParts_skip ?_ ?_
                  · rfl
                  simp only [Act.put, List.setIfInBounds_toArray, List.set_cons_zero, List.set_cons_succ]
                  refine wpParts_skip ?_ ?_
                  · rfl
                  simp only [Act.put, List.setIfInBounds_toArray, List.set_cons_zero, List.set_cons_succ]
                  refine wpParts_skip ?_ ?_
                  · rfl
                  simp only [Act.put, List.setIfInBounds_toArray, List.set_cons_zero, List.set_cons_succ]
                  refine wpParts_skip ?_ ?_
                  · rfl
                  simp only [Act.put, List.setIfInBounds_toArray, List.set_cons_zero, List.set_cons_succ]
                  refine wpParts_skip ?_ ?_
                  · rfl
                  simp only [Act.put, List.setIfInBounds_toArray, List.set_cons_zero, List.set_cons_succ]
                  refine wpParts_skip ?_ ?_
                  · rfl
                  simp only [Act.put, List.setIfInBounds_toArray, List.set_cons_zero, List.set_cons_succ]
                  refine wpParts_skip ?_ ?_
                  · rfl
                  simp only [Act.put, List.setIfInBounds_toArray, List.set_cons_zero, List.set_cons_succ]
                  refine wpParts_skip ?_ ?_
                  · rfl
                  simp only [Act.put, List.setIfInBounds_toArray, List.set_cons_zero, List.set_cons_succ]
                  refine wpParts_skip ?_ ?_
                  · rfl
                  simp only [Act.put, List.setIfInBounds_toArray, List.set_cons_zero, List.set_cons_succ]
                  refine wpParts_skip ?_ ?_
                  · rfl
                  simp only [Act.put, List.setIfInBounds_toArray, List.set_cons_zero, List.set_cons_succ]
                  refine wpParts_det (by rfl) (fun W hE hN => ?_) ?_
                  · go_simp; refine ⟨Below.refl _ _, ?_⟩; rfl
                  simp only [Act.put, List.setIfInBounds_toArray, List.set_cons_zero, List.set_cons_succ]
                  refine wpParts_det (by rfl) (fun W hE hN => ?_) ?_
                  · go_simp; refine ⟨Below.refl _ _, ?_⟩; rfl
                  simp only [Act.put, List.setIfInBounds_toArray, List.set_cons_zero, List.set_cons_succ]
                  refine wpParts_end fun W1 hE1 hG1 => ?_
                  have hcW1 := fun b o h => hE1.cell (p := ⟨b, o, none⟩) h
                  have hfW1 := fun b o h => hE1.frozen (p := ⟨b, o, none⟩) h
                  have HB3 := Lib.hid (HB2.out.trans (hE1.mono HB2.out.size))
                  have HX3 := Lib.hid (HX2.out.ext hE1)
                  clear hE1 hG1 c1 m1 hcW1 hfW1 l1
                  go_wp2_with fail
                  go_roundw
                  case rel => exact ⟨k + 1, HLT.out, by go_num, by rw [HA2.out], by rw [HIS.out], HX3.out, HB3.out⟩
                  case measure => simp [intOf]; have := HLT.out; omega
              | false =>
                have HIS := Lib.hid (show isI K key (k + 1) = true by rw [isI_succ, HS.out, HKD.out, decide_eq_true HQQ.out]; rfl)
                have hq1 : (x.key == key) = true := by rw [list_beq]; exact decide_eq_true HQQ.out
                go_wp2_with fail
                refine' wp_region_seq [.inl _, .inl _, .inl _, .inl _, .inl _, .inl _, .inl _, .inl _, .inl _, .inl _, .inl _, .inl _, .inl _, .inl _] (by kernel_rfl) (by kernel_rfl) ?main14
                case main14 =>
                  refine wpParts_det (by rfl) (fun W hE hN => ?_) ?_
                  · go_simp; refine ⟨Below.refl _ _, ?_⟩; rfl
                  simp only [Act.put, List.setIfInBounds_toArray, List.set_cons_zero, List.set_cons_succ]
                  refine wpParts_det (by rfl) (fun W hE hN => ?_) ?_
                  · go_simp; refine ⟨Below.refl _ _, ?_⟩; rfl
                  simp only [Act.put, List.setIfInBounds_toArray, List.set_cons_zero, List.set_cons_succ]
                  refine wpParts_det (by rfl) (fun W hE hN => ?_) ?_
                  · go_simp; refine ⟨Below.refl _ _, ?_⟩; rfl
                  simp only [Act.put, List.setIfInBounds_toArray, List.set_cons_zero, List.set_cons_succ]
                  refine wpParts_det (by rfl) (fun W hE hN => ?_) ?_
                  · have hc := fun b o h => hE.cell (p := ⟨b, o, none⟩) h
                    go_simp; refine ⟨Below.refl _ _, ?_⟩; rfl
                  simp only [Act.put, List.setIfInBounds_toArray, List.set_cons_zero, List.set_cons_succ]
                  refine wpParts_det (by rfl) (fun W hE hN => ?_) ?_
                  · go_simp; refine ⟨Below.refl _ _, ?_⟩; rfl
                  simp only [Act.put, List.setIfInBounds_toArray, List.set_cons_zero, List.set_cons_succ]
                  refine wpParts_det (by rfl) (fun W hE hN => ?_) ?_
                  · go_simp; refine ⟨Below.refl _ _, ?_⟩; rfl
                  simp only [Act.put, List.setIfInBounds_toArray, List.set_cons_zero, List.set_cons_succ]
                  refine wpParts_det (by rfl) (fun W hE hN => ?_) ?_
                  · go_simp; refine ⟨Below.refl _ _, ?_⟩; rfl
                  simp only [Act.put, List.setIfInBounds_toArray, List.set_cons_zero, List.set_cons_succ]
                  refine wpParts_det (by rfl) (fun W hE hN => ?_) ?_
                  · have hc := fun b o h => hE.cell (p := ⟨b, o, none⟩) h
                    go_simp; refine ⟨Below.refl _ _, ?_⟩; rfl
                  simp only [Act.put, List.setIfInBounds_toArray, List.set_cons_zero, List.set_cons_succ]
                  refine wpParts_det (by rfl) (fun W hE hN => ?_) ?_
                  · have k1 := conv_bytes (HK2.out.ext hE) 22 9 5 Try.underlying22 Try.underlying5 Try.underlying9; go_simp; refine ⟨Below.refl _ _, ?_⟩; rfl
                  simp only [Act.put, List.setIfInBounds_toArray, List.set_cons_zero, List.set_cons_succ]
                  refine wpParts_det (by rfl) (fun W hE hN => ?_) ?_
                  · go_simp; refine ⟨Below.refl _ _, ?_⟩; rfl
                  simp only [Act.put, List.setIfInBounds_toArray, List.set_cons_zero, List.set_cons_succ]
                  refine wpParts_det (by rfl) (fun W hE hN => ?_) ?_
                  · have k1 := conv_bytes (HQ2.out.ext hE) 22 9 5 Try.underlying22 Try.underlying5 Try.underlying9; go_simp; refine ⟨Below.refl _ _, ?_⟩; rfl
                  simp only [Act.put, List.setIfInBounds_toArray, List.set_cons_zero, List.set_cons_succ]
                  refine wpParts_det (by rfl) (fun W hE hN => ?_) ?_
                  · go_simp; refine ⟨Below.refl _ _, ?_⟩; rfl
                  simp only [Act.put, List.setIfInBounds_toArray, List.set_cons_zero, List.set_cons_succ]
                  refine wpParts_det (by rfl) (fun W hE hN => ?_) ?_
                  · go_simp; refine ⟨Below.refl _ _, ?_⟩; rfl
                  simp only [Act.put, List.setIfInBounds_toArray, List.set_cons_zero, List.set_cons_succ]
                  refine wpParts_det (by rfl) (fun W hE hN => ?_) ?_
                  · go_simp; refine ⟨Below.refl _ _, ?_⟩; rfl
                  simp only [Act.put, List.setIfInBounds_toArray, List.set_cons_zero, List.set_cons_succ]
                  refine wpParts_end fun W1 hE1 hG1 => ?_
                  have hcW1 := fun b o h => hE1.cell (p := ⟨b, o, none⟩) h
                  have hfW1 := fun b o h => hE1.frozen (p := ⟨b, o, none⟩) h
                  have HB3 := Lib.hid (HB2.out.trans (hE1.mono HB2.out.size))
                  have HX3 := Lib.hid (HX2.out.ext hE1)
                  clear hE1 hG1 c1 m1 hcW1 hfW1 l1
                  go_wp2_with fail
                  go_roundw
                  case rel => exact ⟨k + 1, HLT.out, by go_num, by rw [HA2.out], by rw [HIS.out], HX3.out, HB3.out⟩
                  case measure => simp [intOf]; have := HLT.out; omega
            | false =>
              have HQQ := Lib.hid (HQQ.out.2 rfl)
              cases s with
              | true =>
                have HIS := Lib.hid (show isI K key (k + 1) = true by rw [isI_succ, HS.out, Bool.true_or])
                go_wp2_with fail
                refine' wp_region_seq [.inl _, .inl _, .inl undef, .inl undef, .inl undef, .inl undef, .inl undef, .inl undef, .inl undef, .inl undef, .inl undef, .inl undef, .inl _, .inl _] (by kernel_rfl) (by kernel_rfl) ?main15
                case main15 =>
                  refine wpParts_det (by rfl) (fun W hE hN => ?_) ?_
                  · go_simp; refine ⟨Below.refl _ _, ?_⟩; rfl
                  simp only [Act.put, List.setIfInBounds_toArray, List.set_cons_zero, List.set_cons_succ]
                  refine wpParts_det (by rfl) (fun W hE hN => ?_) ?_
                  · go_simp; refine ⟨Below.refl _ _, ?_⟩; rfl
                  simp only [Act.put, List.setIfInBounds_toArray, List.set_cons_zero, List.set_cons_succ]
                  refine wpParts_skip ?_ ?_
                  · rfl
                  simp only [Act.put, List.setIfInBounds_toArray, List.set_cons_zero, List.set_cons_succ]
                  refine wpParts_skip ?_ ?_
                  · rfl
                  simp only [Act.put, List.setIfInBounds_toArray, List.set_cons_zero, List.set_cons_succ]
                  refine wpParts_skip ?_ ?_
                  · rfl
                  simp only [Act.put, List.setIfInBounds_toArray, List.set_cons_zero, List.set_cons_succ]
                  refine wpParts_skip ?_ ?_
                  · rfl
                  simp only [Act.put, List.setIfInBounds_toArray, List.set_cons_zero, List.set_cons_succ]
                  refine wpParts_skip ?_ ?_
                  · rfl
                  simp only [Act.put, List.setIfInBounds_toArray, List.set_cons_zero, List.set_cons_succ]
                  refine wpParts_skip ?_ ?_
                  · rfl
                  simp only [Act.put, List.setIfInBounds_toArray, List.set_cons_zero, List.set_cons_succ]
                  refine wpParts_skip ?_ ?_
                  · rfl
                  simp only [Act.put, List.setIfInBounds_toArray, List.set_cons_zero, List.set_cons_succ]
                  refine wpParts_skip ?_ ?_
                  · rfl
                  simp only [Act.put, List.setIfInBounds_toArray, List.set_cons_zero, List.set_cons_succ]
                  refine wpParts_skip ?_ ?_
                  · rfl
                  simp only [Act.put, List.setIfInBounds_toArray, List.set_cons_zero, List.set_cons_succ]
                  refine wpParts_skip ?_ ?_
                  · rfl
                  simp only [Act.put, List.setIfInBounds_toArray, List.set_cons_zero, List.set_cons_succ]
                  refine wpParts_det (by rfl) (fun W hE hN => ?_) ?_
                  · go_simp; refine ⟨Below.refl _ _, ?_⟩; rfl
                  simp only [Act.put, List.setIfInBounds_toArray, List.set_cons_zero, List.set_cons_succ]
                  refine wpParts_det (by rfl) (fun W hE hN => ?_) ?_
                  · go_simp; refine ⟨Below.refl _ _, ?_⟩; rfl
                  simp only [Act.put, List.setIfInBounds_toArray, List.set_cons_zero, List.set_cons_succ]
                  refine wpParts_end fun W1 hE1 hG1 => ?_
                  have hcW1 := fun b o h => hE1.cell (p := ⟨b, o, none⟩) h
                  have hfW1 := fun b o h => hE1.frozen (p := ⟨b, o, none⟩) h
                  have HB3 := Lib.hid (HB2.out.trans (hE1.mono HB2.out.size))
                  have HX3 := Lib.hid (HX2.out.ext hE1)
                  clear hE1 hG1 c1 m1 hcW1 hfW1 l1
                  go_wp2_with fail
                  go_roundw
                  case rel => exact ⟨k + 1, HLT.out, by go_num, by rw [HA2.out], by rw [HIS.out], HX3.out, HB3.out⟩
                  case measure => simp [intOf]; have := HLT.out; omega
              | false =>
                have HIS := Lib.hid (show isI K key (k + 1) = false by rw [isI_succ, HS.out, HKD.out, decide_eq_false HQQ.out]; rfl)
                have hq1 : (x.key == key) = false := by rw [list_beq]; exact decide_eq_false HQQ.out
                go_wp2_with fail
                refine' wp_region_seq [.inl _, .inl _, .inl _, .inl _, .inl _, .inl _, .inl _, .inl _, .inl _, .inl _, .inl _, .inl _, .inl _, .inl _] (by kernel_rfl) (by kernel_rfl) ?main16
                case main16 =>
                  refine wpParts_det (by rfl) (fun W hE hN => ?_) ?_
                  · go_simp; refine ⟨Below.refl _ _, ?_⟩; rfl
                  simp only [Act.put, List.setIfInBounds_toArray, List.set_cons_zero, List.set_cons_succ]
                  refine wpParts_det (by rfl) (fun W hE hN => ?_) ?_
                  · go_simp; refine ⟨Below.refl _ _, ?_⟩; rfl
                  simp only [Act.put, List.setIfInBounds_toArray, List.set_cons_zero, List.set_cons_succ]
                  refine wpParts_det (by rfl) (fun W hE hN => ?_) ?_
                  · go_simp; refine ⟨Below.refl _ _, ?_⟩; rfl
                  simp only [Act.put, List.setIfInBounds_toArray, List.set_cons_zero, List.set_cons_succ]
                  refine wpParts_det (by rfl) (fun W hE hN => ?_) ?_
                  · have hc := fun b o h => hE.cell (p := ⟨b, o, none⟩) h
                    go_simp; refine ⟨Below.refl _ _, ?_⟩; rfl
                  simp only [Act.put, List.setIfInBounds_toArray, List.set_cons_zero, List.set_cons_succ]
                  refine wpParts_det (by rfl) (fun W hE hN => ?_) ?_
                  · go_simp; refine ⟨Below.refl _ _, ?_⟩; rfl
                  simp only [Act.put, List.setIfInBounds_toArray, List.set_cons_zero, List.set_cons_succ]
                  refine wpParts_det (by rfl) (fun W hE hN => ?_) ?_
                  · go_simp; refine ⟨Below.refl _ _, ?_⟩; rfl
                  simp only [Act.put, List.setIfInBounds_toArray, List.set_cons_zero, List.set_cons_succ]
                  refine wpParts_det (by rfl) (fun W hE hN => ?_) ?_
                  · go_simp; refine ⟨Below.refl _ _, ?_⟩; rfl
                  simp only [Act.put, List.setIfInBounds_toArray, List.set_cons_zero, List.set_cons_succ]
                  refine wpParts_det (by rfl) (fun W hE hN => ?_) ?_
                  · have hc := fun b o h => hE.cell (p := ⟨b, o, none⟩) h
                    go_simp; refine ⟨Below.refl _ _, ?_⟩; rfl
                  simp only [Act.put, List.setIfInBounds_toArray, List.set_cons_zero, List.set_cons_succ]
                  refine wpParts_det (by rfl) (fun W hE hN => ?_) ?_
                  · have k1 := conv_bytes (HK2.out.ext hE) 22 9 5 Try.underlying22 Try.underlying5 Try.underlying9; go_simp; refine ⟨Below.refl _ _, ?_⟩; rfl
                  simp only [Act.put, List.setIfInBounds_toArray, List.set_cons_zero, List.set_cons_succ]
                  refine wpParts_det (by rfl) (fun W hE hN => ?_) ?_
                  · go_simp; refine ⟨Below.refl _ _, ?_⟩; rfl
                  simp only [Act.put, List.setIfInBounds_toArray, List.set_cons_zero, List.set_cons_succ]
                  refine wpParts_det (by rfl) (fun W hE hN => ?_) ?_
                  · have k1 := conv_bytes (HQ2.out.ext hE) 22 9 5 Try.underlying22 Try.underlying5 Try.underlying9; go_simp; refine ⟨Below.refl _ _, ?_⟩; rfl
                  simp only [Act.put, List.setIfInBounds_toArray, List.set_cons_zero, List.set_cons_succ]
                  refine wpParts_det (by rfl) (fun W hE hN => ?_) ?_
                  · go_simp; refine ⟨Below.refl _ _, ?_⟩; rfl
                  simp only [Act.put, List.setIfInBounds_toArray, List.set_cons_zero, List.set_cons_succ]
                  refine wpParts_det (by rfl) (fun W hE hN => ?_) ?_
                  · go_simp; refine ⟨Below.refl _ _, ?_⟩; rfl
                  simp only [Act.put, List.setIfInBounds_toArray, List.set_cons_zero, List.set_cons_succ]
                  refine wpParts_det (by rfl) (fun W hE hN => ?_) ?_
                  · go_simp; refine ⟨Below.refl _ _, ?_⟩; rfl
                  simp only [Act.put, List.setIfInBounds_toArray, List.set_cons_zero, List.set_cons_succ]
                  refine wpParts_end fun W1 hE1 hG1 => ?_
                  have hcW1 := fun b o h => hE1.cell (p := ⟨b, o, none⟩) h
                  have hfW1 := fun b o h => hE1.frozen (p := ⟨b, o, none⟩) h
                  have HB3 := Lib.hid (HB2.out.trans (hE1.mono HB2.out.size))
                  have HX3 := Lib.hid (HX2.out.ext hE1)
                  clear hE1 hG1 c1 m1 hcW1 hfW1 l1
                  go_wp2_with fail
                  go_roundw
                  case rel => exact ⟨k + 1, HLT.out, by go_num, by rw [HA2.out], by rw [HIS.out], HX3.out, HB3.out⟩
                  case measure => simp [intOf]; have := HLT.out; omega
        · obtain rfl : k = kl := by omega
          have hlt' : ¬ (k : Int) < (k : Int) := by omega
          clear hlt hk hbel
          go_wp2
          go_ret2
          exact ⟨by rw [HA.out, HS.out]; rfl, HB.out⟩
end Go.Proofs.Ytfhhcpolicdfpaa
