/-
  The reference of layer 14: kid, walked.
-/
import Derived.Test.YtfhhcpolicdfpaaQNodBK
import Derived.Test.YtfhhcpolicdfpaaNdK
namespace Go.Dav
set_option linter.unusedVariables false
set_option linter.unusedSimpArgs false
open Go Go.RowKit
theorem BytesS.sub {W : World} {S : Nat → Prop} {b o n c i k : Nat} {l : List UInt8} (h : BytesS W S (some ⟨b, o, none⟩) n c l) (hi : i + k ≤ n) (hc : c ≠ i) : BytesS W S (some ⟨b, o + i, none⟩) k (c - i) ((l.drop i).take k) := by
  have h1 := (h.drop (k := i) (by omega)).takeC (k := k) (by omega)
  unfold advA at h1
  rw [if_neg hc] at h1
  exact h1
theorem take_sub {l : List UInt8} {m i k : Nat} (h : i + k ≤ m) : ((l.take m).drop i).take k = (l.drop i).take k := by
  rw [List.drop_take, List.take_take, Nat.min_eq_left (by omega)]
theorem numOf_lt4 (l : List UInt8) (i : Nat) : numOf ((l.drop i).take 4) < 4294967296 := numOf_4_le _ (List.length_take_le _ _)
theorem numOf_lt8 (l : List UInt8) (i : Nat) : numOf ((l.drop i).take 8) < 18446744073709551616 := numOf_8_le _ (List.length_take_le _ _)
def kidV (ka : Option Addr) (kn kc : Nat) (x : KidD) : Value := .agg #[.slice ka kn kc, .int .i64 x.at_, .int .i64 x.red.c, .int .i64 x.red.n, .int .i64 (hi x.red.s), .int .u64 (lo x.red.s), .int .i64 x.red.l, .int .i64 x.red.m]
/-- A kid, what is left, and true. -/
def GivesKid (S : Nat → Prop) (w : World) (x : KidD) (r : List UInt8) (e : Ending) (w' : World) : Prop :=
  ∃ ka kn kc ra rn rc, e = .returned (.tuple #[kidV ka kn kc x, .slice ra rn rc, .bool true]) ∧ BytesS w' S ka kn kc x.key ∧ BytesS w' S ra rn rc r ∧ plainA ra ∧ Below w.heap.size w w'
end Go.Dav
namespace Go.Proofs.Ytfhhcpolicdfpaa
set_option linter.unusedVariables false
set_option linter.unusedSimpArgs false
open Go.RowKit Go.Dav
attribute [local go_sem] Gives ite_val ite_val_true
theorem Try_rCut44 (S : Nat → Prop) (a : Option Addr) (n c : Nat) (l : List UInt8) (w : World) (hB : BytesS w S a n c l) (hf : plainA a) (hk : 44 ≤ l.length) :
    Calls Try.prog 61 #[.slice a n c, .int .i64 44] w (GivesCut S w (l.take 44) (l.drop 44)) := Try_rCutL_yes S a n c 44 l w hB hf (by rw [← hB.at_.hlen]; exact hk) (by omega)
theorem Try_rCut44_no (S : Nat → Prop) (a : Option Addr) (n c : Nat) (l : List UInt8) (w : World) (hB : BytesS w S a n c l) (hk : ¬ 44 ≤ l.length) :
    Calls Try.prog 61 #[.slice a n c, .int .i64 44] w fun e w' => e = .returned (.tuple #[.slice none 0 0, .slice none 0 0, .bool false]) ∧ Below w.heap.size w w' := Try_rCut_no ⟨a, n, c, l, true⟩ 44 w (by rw [← hB.at_.hlen]; exact hk) (by omega) hB.at_.hfew
set_option maxRecDepth 8000 in
set_option maxHeartbeats 16000000 in
theorem Try_rKidAt (S : Nat → Prop) (a : Option Addr) (n c : Nat) (l : List UInt8) (w : World) (hB : BytesS w S a n c l) (hf : plainA a) (hS : ∀ b, S b → b < w.heap.size) :
    (kidL l = none → Calls Try.prog 49 #[.slice a n c] w fun e w' => e = .returned (.tuple #[.agg #[.slice none 0 0, .int .i64 0, .int .i64 0, .int .i64 0, .int .i64 0, .int .u64 0, .int .i64 0, .int .i64 0], .slice none 0 0, .bool false]) ∧ Below w.heap.size w w') ∧
    (∀ x r, kidL l = some (x, r) → Calls Try.prog 49 #[.slice a n c] w (GivesKid S w x r)) := by
  obtain ⟨w0, hw0⟩ : ∃ w0, w.alloc (.cells #[.slice none 0 0, .int .i64 0, .int .i64 0, .int .i64 0, .int .i64 0, .int .u64 0, .int .i64 0, .int .i64 0] 58) = w0 := ⟨_, rfl⟩
  have hb0 : Below w.heap.size w w0 := by rw [← hw0]; exact (by repeat (first | (with_reducible exact Below.refl _ _) | (with_reducible exact Below.refl _ _) | (with_reducible refine Below.setCell ?_ (by first | omega | (simp; done) | (simp; omega)) _) | (with_reducible refine Below.alloc ?_ (by first | omega | (simp; done) | (simp; omega)) _) | (with_reducible refine Below.drew ?_) | (with_reducible refine below_drewN ?_ _)))
  have q0 : Blk w0 w.heap.size [.slice none 0 0, .int .i64 0, .int .i64 0, .int .i64 0, .int .i64 0, .int .u64 0, .int .i64 0, .int .i64 0] 58 := by rw [← hw0]; exact Blk.new w _ _
  have HS := Lib.hid hS
  have HQ0 := Lib.hid q0
  have HB0 := Lib.hid hb0
  have HY := Lib.hid (hB.ext hb0)
  have HF := Lib.hid hf
  have HW0 := Lib.hid hw0
  clear hb0 q0 hB hf hw0 hS
  cases hc : cntL l with
  | none =>
    have hit : kidL l = none := by unfold kidL; rw [hc]
    have HC := Lib.hid (Try_rCounted_no S a n c l _ HY.out HF.out hc)
    refine ⟨fun _ => ?_, fun x r e => by rw [hit] at e; cases e⟩
    clear hc hit
    go_enter Try.func49, Try.ntmps49
    go_wp2_with fail
    rw [HW0.out]
    (with_reducible refine HC.out.mono ?_); rintro e w1 ⟨rfl, hb1⟩
    have q1 := HQ0.out.ext hb1
    have HB1 := Lib.hid (HB0.out.trans (hb1.mono HB0.out.size))
    have c1 := q1.cells
    have m1 := q1.marks
    have l1 := q1.lt
    clear hb1 q1 HC
    go_wp2
    refine bodyPost_ret (v := .tuple #[.agg #[.slice none 0 0, .int .i64 0, .int .i64 0, .int .i64 0, .int .i64 0, .int .u64 0, .int .i64 0, .int .i64 0], .slice none 0 0, .bool false]) (by simp [results, Try.results49, go_sem, *]) rfl ⟨rfl, ?_⟩
    have h := HB1.out; have hsz := h.size; exact (by repeat (first | (with_reducible exact Below.refl _ _) | (with_reducible exact Below.refl _ _) | (with_reducible refine Below.setCell ?_ (by first | omega | (simp; done) | (simp; omega)) _) | (with_reducible refine Below.alloc ?_ (by first | omega | (simp; done) | (simp; omega)) _) | (with_reducible refine Below.drew ?_) | (with_reducible refine below_drewN ?_ _) | (with_reducible refine Below.trans ?_ (h.mono (by first | omega | (simp; done) | (simp; omega))))))
  | some p =>
    obtain ⟨key, r2⟩ := p
    have HC := Lib.hid (Try_rCounted_yes S a n c l key r2 _ HY.out HF.out hc)
    by_cases h9 : 44 ≤ r2.length
    rotate_left
    · have hit : kidL l = none := by unfold kidL; rw [hc]; dsimp only; rw [if_neg h9]
      refine ⟨fun _ => ?_, fun x r e => by rw [hit] at e; cases e⟩
      have H9 := Lib.hid h9
      clear hc hit h9
      go_enter Try.func49, Try.ntmps49
      go_wp2_with fail
      rw [HW0.out]
      (with_reducible refine HC.out.mono ?_); rintro e w1 ⟨ka, kn, kc, ra, rn, rc, rfl, hK, hkp, hR, hrp, hb1⟩
      have HQ1 := Lib.hid (HQ0.out.ext hb1)
      have HB1 := Lib.hid (HB0.out.trans (hb1.mono HB0.out.size))
      have HC3 := Lib.hid (Try_rCut44_no S ra rn rc r2 w1 hR H9.out)
      clear hb1 HC hK hkp hR hrp
      go_wp2_with fail
      (with_reducible refine HC3.out.mono ?_); rintro e w3 ⟨rfl, hb3⟩
      have q3 := HQ1.out.ext hb3
      have HB3 := Lib.hid (HB1.out.trans (hb3.mono HB1.out.size))
      have c3 := q3.cells
      have m3 := q3.marks
      have l3 := q3.lt
      clear hb3 q3 HC3
      go_wp2
      refine bodyPost_ret (v := .tuple #[.agg #[.slice none 0 0, .int .i64 0, .int .i64 0, .int .i64 0, .int .i64 0, .int .u64 0, .int .i64 0, .int .i64 0], .slice none 0 0, .bool false]) (by simp [results, Try.results49, go_sem, *]) rfl ⟨rfl, ?_⟩
      have h := HB3.out; have hsz := h.size; exact (by repeat (first | (with_reducible exact Below.refl _ _) | (with_reducible exact Below.refl _ _) | (with_reducible refine Below.setCell ?_ (by first | omega | (simp; done) | (simp; omega)) _) | (with_reducible refine Below.alloc ?_ (by first | omega | (simp; done) | (simp; omega)) _) | (with_reducible refine Below.drew ?_) | (with_reducible refine below_drewN ?_ _) | (with_reducible refine Below.trans ?_ (h.mono (by first | omega | (simp; done) | (simp; omega))))))
    · have hit : kidL l = some (kidAt key r2, r2.drop 44) := by unfold kidL; rw [hc]; dsimp only; rw [if_pos h9]
      refine ⟨fun e => (by rw [hit] at e; cases e), fun x r e => ?_⟩
      rw [hit] at e
      cases e
      have H9 := Lib.hid h9
      clear hc hit h9
      go_enter Try.func49, Try.ntmps49
      go_wp2_with fail
      rw [HW0.out]
      (with_reducible refine HC.out.mono ?_); rintro e w1 ⟨ka, kn, kc, ra, rn, rc, rfl, hK, hkp, hR, hrp, hb1⟩
      have HQ1 := Lib.hid (HQ0.out.ext hb1)
      have HB1 := Lib.hid (HB0.out.trans (hb1.mono HB0.out.size))
      have HK1 := Lib.hid hK
      have HC3 := Lib.hid (Try_rCut44 S ra rn rc r2 w1 hR hrp H9.out)
      clear hb1 HC hK hkp hR hrp
      go_wp2_with fail
      (with_reducible refine HC3.out.mono ?_); rintro e w3 ⟨ta, tn, tc, ua, un, uc, rfl, hT, htp, hU, hup, hb3⟩
      have q3 := HQ1.out.ext hb3
      have HQ3 := Lib.hid q3
      have HB3 := Lib.hid (HB1.out.trans (hb3.mono HB1.out.size))
      have HK3 := Lib.hid (HK1.out.ext hb3)
      have HU3 := Lib.hid hU
      have HUP := Lib.hid hup
      have htl := hT.at_.hlen
      rw [List.length_take, Nat.min_eq_left H9.out] at htl
      subst htl
      obtain ⟨y, hy⟩ : ∃ y, (r2.take 44)[0]? = some y := ⟨_, List.getElem?_eq_getElem (by rw [List.length_take]; have := H9.out; omega)⟩
      obtain ⟨b, o, rfl, hb, hc0⟩ := hT.at_.hat 0 y hy
      have htc := hT.at_.hcap
      have s0 := hT.takeC (k := 4) (by omega)
      rw [List.take_take, Nat.min_eq_left (by omega)] at s0
      have s4 := hT.sub (i := 4) (k := 4) (by omega) (by omega)
      have s8 := hT.sub (i := 8) (k := 4) (by omega) (by omega)
      have s12 := hT.sub (i := 12) (k := 8) (by omega) (by omega)
      have s20 := hT.sub (i := 20) (k := 8) (by omega) (by omega)
      have s28 := hT.sub (i := 28) (k := 8) (by omega) (by omega)
      have s36 := hT.sub (i := 36) (k := 8) (by omega) (by omega)
      rw [take_sub (by omega)] at s4 s8 s12 s20 s28 s36
      have N0 := fun W (hb : Below w3.heap.size w3 W) => Try_rNumber _ _ _ _ W (s0.at_.ext hb) (by omega)
      have N4 := fun W (hb : Below w3.heap.size w3 W) => Try_rNumber _ _ _ _ W (s4.at_.ext hb) (by omega)
      have N8 := fun W (hb : Below w3.heap.size w3 W) => Try_rNumber _ _ _ _ W (s8.at_.ext hb) (by omega)
      have N12 := fun W (hb : Below w3.heap.size w3 W) => Try_rNumber _ _ _ _ W (s12.at_.ext hb) (by omega)
      have N20 := fun W (hb : Below w3.heap.size w3 W) => Try_rNumber _ _ _ _ W (s20.at_.ext hb) (by omega)
      have N28 := fun W (hb : Below w3.heap.size w3 W) => Try_rNumber _ _ _ _ W (s28.at_.ext hb) (by omega)
      have N36 := fun W (hb : Below w3.heap.size w3 W) => Try_rNumber _ _ _ _ W (s36.at_.ext hb) (by omega)
      have hka : kidAt key r2 = ⟨key, (numOf (r2.take 4) : Nat), ⟨(numOf ((r2.drop 4).take 4) : Nat), (numOf ((r2.drop 8).take 4) : Nat), wrap64 (numOf ((r2.drop 12).take 8) : Nat) * 18446744073709551616 + (numOf ((r2.drop 20).take 8) : Nat), wrap64 (numOf ((r2.drop 28).take 8) : Nat), wrap64 (numOf ((r2.drop 36).take 8) : Nat)⟩⟩ := rfl
      have b0 : numOf (r2.take 4) < 4294967296 := numOf_4_le _ (List.length_take_le _ _)
      have b4 := numOf_lt4 r2 4
      have b8 := numOf_lt4 r2 8
      have b20 := numOf_lt8 r2 20
      obtain ⟨z0, hz0⟩ : ∃ z, numOf (r2.take 4) = z := ⟨_, rfl⟩
      obtain ⟨z4, hz4⟩ : ∃ z, numOf ((r2.drop 4).take 4) = z := ⟨_, rfl⟩
      obtain ⟨z8, hz8⟩ : ∃ z, numOf ((r2.drop 8).take 4) = z := ⟨_, rfl⟩
      obtain ⟨z12, hz12⟩ : ∃ z, numOf ((r2.drop 12).take 8) = z := ⟨_, rfl⟩
      obtain ⟨z20, hz20⟩ : ∃ z, numOf ((r2.drop 20).take 8) = z := ⟨_, rfl⟩
      obtain ⟨z28, hz28⟩ : ∃ z, numOf ((r2.drop 28).take 8) = z := ⟨_, rfl⟩
      obtain ⟨z36, hz36⟩ : ∃ z, numOf ((r2.drop 36).take 8) = z := ⟨_, rfl⟩
      rw [hz0, hz4, hz8, hz12, hz20, hz28, hz36] at hka
      rw [hz0] at N0 b0
      rw [hz4] at N4 b4
      rw [hz8] at N8 b8
      rw [hz12] at N12
      rw [hz20] at N20 b20
      rw [hz28] at N28
      rw [hz36] at N36
      have HKA := Lib.hid hka
      have HN0 := Lib.hid N0
      have HN4 := Lib.hid N4
      have HN8 := Lib.hid N8
      have HN12 := Lib.hid N12
      have HN20 := Lib.hid N20
      have HN28 := Lib.hid N28
      have HN36 := Lib.hid N36
      have HW0' := Lib.hid (show IntKind.i64.wrap (z0 : Int) = (z0 : Int) by rw [i64_wrap_def]; omega)
      have HW4 := Lib.hid (show IntKind.i64.wrap (z4 : Int) = (z4 : Int) by rw [i64_wrap_def]; omega)
      have HW8 := Lib.hid (show IntKind.i64.wrap (z8 : Int) = (z8 : Int) by rw [i64_wrap_def]; omega)
      have HWW := Lib.hid (show ∀ z : Int, IntKind.i64.wrap z = wrap64 z from fun z => by rw [i64_wrap_def, wrap64_def])
      have HHI := Lib.hid (show hi (wrap64 (z12 : Int) * 18446744073709551616 + (z20 : Int)) = wrap64 (z12 : Int) ∧ lo (wrap64 (z12 : Int) * 18446744073709551616 + (z20 : Int)) = (z20 : Int) from ⟨pair_hi (wrap64_bd _) (by omega) (by omega), pair_lo (by omega) (by omega)⟩)
      have t4 : ¬ tc - 4 = 0 := by omega
      have t8 : ¬ tc - 8 = 0 := by omega
      have t12 : ¬ tc - 12 = 0 := by omega
      have t20 : ¬ tc - 20 = 0 := by omega
      have t28 : ¬ tc - 28 = 0 := by omega
      have t36 : ¬ tc - 36 = 0 := by omega
      have e4 : ¬ tc = 4 := by omega
      have e8 : ¬ tc = 8 := by omega
      have e12 : ¬ tc = 12 := by omega
      have e20 : ¬ tc = 20 := by omega
      have e28 : ¬ tc = 28 := by omega
      have e36 : ¬ tc = 36 := by omega
      have f8 : (8 : Int) ≤ (tc : Int) := by omega
      have f12 : (12 : Int) ≤ (tc : Int) := by omega
      have f20 : (20 : Int) ≤ (tc : Int) := by omega
      have f28 : (28 : Int) ≤ (tc : Int) := by omega
      have f36 : (36 : Int) ≤ (tc : Int) := by omega
      have f44 : (44 : Int) ≤ (tc : Int) := by omega
      have f4 : (4 : Int) ≤ (tc : Int) := by omega
      have c3 := q3.cells
      have m3 := q3.marks
      have l3 := q3.lt
      clear hb3 HC3 hT htp hU hup q3 hy hc0 htc s0 s4 s8 s12 s20 s28 s36 N0 N4 N8 N12 N20 N28 N36 hka b0 b4 b8 b20 hz0 hz4 hz8 hz12 hz20 hz28 hz36
      go_wp2_with fail
      refine' wp_region_seq [(Sum.inl _ : Piece), (Sum.inl _ : Piece), (Sum.inl _ : Piece), (Sum.inl _ : Piece), (Sum.inl _ : Piece), (Sum.inl _ : Piece), (Sum.inl _ : Piece), (Sum.inl _ : Piece), (Sum.inl _ : Piece), (Sum.inl _ : Piece), (Sum.inl _ : Piece), (Sum.inl _ : Piece), (Sum.inl _ : Piece), (Sum.inl _ : Piece), (Sum.inl _ : Piece), (Sum.inl _ : Piece), (Sum.inl _ : Piece), (Sum.inl _ : Piece), (Sum.inl _ : Piece), (Sum.inl _ : Piece), (Sum.inl _ : Piece), (Sum.inl _ : Piece), (Sum.inl _ : Piece), (Sum.inl _ : Piece), (Sum.inr (NewBlk w3.heap.size [.int .i64 0, .int .i64 0, .int .i64 0, .int .u64 0, .int .i64 0, .int .i64 0] 47) : Piece)] (by kernel_rfl) (by kernel_rfl) ?main1
      case main1 =>
        refine wpParts_det (by rfl) (fun W hE hN => ?_) ?_
        · go_simp; refine ⟨Below.refl _ _, ?_⟩; rfl
        simp only [Act.put, List.setIfInBounds_toArray, List.set_cons_zero, List.set_cons_succ]
        refine wpParts_det (by rfl) (fun W hE hN => ?_) ?_
        · go_simp; refine ⟨Below.refl _ _, ?_⟩; rfl
        simp only [Act.put, List.setIfInBounds_toArray, List.set_cons_zero, List.set_cons_succ]
        refine wpParts_det (by rfl) (fun W hE hN => ?_) ?_
        · go_simp; refine ⟨Below.refl _ _, ?_⟩; refine (HN4.out W hE).mono ?_; rintro e w' ⟨rfl, hb⟩; refine ⟨?_, hb⟩; rfl
        simp only [Act.put, List.setIfInBounds_toArray, List.set_cons_zero, List.set_cons_succ]
        refine wpParts_det (by rfl) (fun W hE hN => ?_) ?_
        · go_simp; refine ⟨Below.refl _ _, ?_⟩; rw [HW4.out]
        simp only [Act.put, List.setIfInBounds_toArray, List.set_cons_zero, List.set_cons_succ]
        refine wpParts_det (by rfl) (fun W hE hN => ?_) ?_
        · go_simp; refine ⟨Below.refl _ _, ?_⟩; rfl
        simp only [Act.put, List.setIfInBounds_toArray, List.set_cons_zero, List.set_cons_succ]
        refine wpParts_det (by rfl) (fun W hE hN => ?_) ?_
        · go_simp; refine ⟨Below.refl _ _, ?_⟩; rfl
        simp only [Act.put, List.setIfInBounds_toArray, List.set_cons_zero, List.set_cons_succ]
        refine wpParts_det (by rfl) (fun W hE hN => ?_) ?_
        · go_simp; refine ⟨Below.refl _ _, ?_⟩; refine (HN8.out W hE).mono ?_; rintro e w' ⟨rfl, hb⟩; refine ⟨?_, hb⟩; rfl
        simp only [Act.put, List.setIfInBounds_toArray, List.set_cons_zero, List.set_cons_succ]
        refine wpParts_det (by rfl) (fun W hE hN => ?_) ?_
        · go_simp; refine ⟨Below.refl _ _, ?_⟩; rw [HW8.out]
        simp only [Act.put, List.setIfInBounds_toArray, List.set_cons_zero, List.set_cons_succ]
        refine wpParts_det (by rfl) (fun W hE hN => ?_) ?_
        · go_simp; refine ⟨Below.refl _ _, ?_⟩; rfl
        simp only [Act.put, List.setIfInBounds_toArray, List.set_cons_zero, List.set_cons_succ]
        refine wpParts_det (by rfl) (fun W hE hN => ?_) ?_
        · go_simp; refine ⟨Below.refl _ _, ?_⟩; rfl
        simp only [Act.put, List.setIfInBounds_toArray, List.set_cons_zero, List.set_cons_succ]
        refine wpParts_det (by rfl) (fun W hE hN => ?_) ?_
        · go_simp; refine ⟨Below.refl _ _, ?_⟩; refine (HN12.out W hE).mono ?_; rintro e w' ⟨rfl, hb⟩; refine ⟨?_, hb⟩; rfl
        simp only [Act.put, List.setIfInBounds_toArray, List.set_cons_zero, List.set_cons_succ]
        refine wpParts_det (by rfl) (fun W hE hN => ?_) ?_
        · go_simp; refine ⟨Below.refl _ _, ?_⟩; rw [HWW.out]
        simp only [Act.put, List.setIfInBounds_toArray, List.set_cons_zero, List.set_cons_succ]
        refine wpParts_det (by rfl) (fun W hE hN => ?_) ?_
        · go_simp; refine ⟨Below.refl _ _, ?_⟩; rfl
        simp only [Act.put, List.setIfInBounds_toArray, List.set_cons_zero, List.set_cons_succ]
        refine wpParts_det (by rfl) (fun W hE hN => ?_) ?_
        · go_simp; refine ⟨Below.refl _ _, ?_⟩; rfl
        simp only [Act.put, List.setIfInBounds_toArray, List.set_cons_zero, List.set_cons_succ]
        refine wpParts_det (by rfl) (fun W hE hN => ?_) ?_
        · go_simp; refine ⟨Below.refl _ _, ?_⟩; refine (HN20.out W hE).mono ?_; rintro e w' ⟨rfl, hb⟩; refine ⟨?_, hb⟩; rfl
        simp only [Act.put, List.setIfInBounds_toArray, List.set_cons_zero, List.set_cons_succ]
        refine wpParts_det (by rfl) (fun W hE hN => ?_) ?_
        · go_simp; refine ⟨Below.refl _ _, ?_⟩; rfl
        simp only [Act.put, List.setIfInBounds_toArray, List.set_cons_zero, List.set_cons_succ]
        refine wpParts_det (by rfl) (fun W hE hN => ?_) ?_
        · go_simp; refine ⟨Below.refl _ _, ?_⟩; rfl
        simp only [Act.put, List.setIfInBounds_toArray, List.set_cons_zero, List.set_cons_succ]
        refine wpParts_det (by rfl) (fun W hE hN => ?_) ?_
        · go_simp; refine ⟨Below.refl _ _, ?_⟩; refine (HN28.out W hE).mono ?_; rintro e w' ⟨rfl, hb⟩; refine ⟨?_, hb⟩; rfl
        simp only [Act.put, List.setIfInBounds_toArray, List.set_cons_zero, List.set_cons_succ]
        refine wpParts_det (by rfl) (fun W hE hN => ?_) ?_
        · go_simp; refine ⟨Below.refl _ _, ?_⟩; rw [HWW.out]
        simp only [Act.put, List.setIfInBounds_toArray, List.set_cons_zero, List.set_cons_succ]
        refine wpParts_det (by rfl) (fun W hE hN => ?_) ?_
        · go_simp; refine ⟨Below.refl _ _, ?_⟩; rfl
        simp only [Act.put, List.setIfInBounds_toArray, List.set_cons_zero, List.set_cons_succ]
        refine wpParts_det (by rfl) (fun W hE hN => ?_) ?_
        · go_simp; refine ⟨Below.refl _ _, ?_⟩; rfl
        simp only [Act.put, List.setIfInBounds_toArray, List.set_cons_zero, List.set_cons_succ]
        refine wpParts_det (by rfl) (fun W hE hN => ?_) ?_
        · go_simp; refine ⟨Below.refl _ _, ?_⟩; refine (HN36.out W hE).mono ?_; rintro e w' ⟨rfl, hb⟩; refine ⟨?_, hb⟩; rfl
        simp only [Act.put, List.setIfInBounds_toArray, List.set_cons_zero, List.set_cons_succ]
        refine wpParts_det (by rfl) (fun W hE hN => ?_) ?_
        · go_simp; refine ⟨Below.refl _ _, ?_⟩; rw [HWW.out]
        simp only [Act.put, List.setIfInBounds_toArray, List.set_cons_zero, List.set_cons_succ]
        refine wpParts_det (by rfl) (fun W hE hN => ?_) ?_
        · go_simp; refine ⟨Below.refl _ _, ?_⟩; rfl
        simp only [Act.put, List.setIfInBounds_toArray, List.set_cons_zero, List.set_cons_succ]
        refine wpParts_any rfl (NewBlk.later) (by rfl) (fun W hE hN => ?_) (fun u24 => ?_)
        · go_simp; exact newBlk_alloc (cs := [.int .i64 0, .int .i64 0, .int .i64 0, .int .u64 0, .int .i64 0, .int .i64 0]) hE.size
        simp only [Act.put, List.setIfInBounds_toArray, List.set_cons_zero, List.set_cons_succ]
        refine wpParts_end fun W4 hE4 hG4 => ?_
        have hcW4 := fun b o h => hE4.cell (p := ⟨b, o, none⟩) h
        have hfW4 := fun b o h => hE4.frozen (p := ⟨b, o, none⟩) h
        obtain ⟨p8, rfl, hp8, hk8⟩ := hG4.1
        obtain ⟨W5, hW5⟩ : ∃ W5, (((((W4.setCell ⟨p8, 0, none⟩ (.int .i64 (z4 : Int))).setCell ⟨p8, 1, none⟩ (.int .i64 (z8 : Int))).setCell ⟨p8, 2, none⟩ (.int .i64 (wrap64 (z12 : Int)))).setCell ⟨p8, 3, none⟩ (.int .u64 (z20 : Int))).setCell ⟨p8, 4, none⟩ (.int .i64 (wrap64 (z28 : Int)))).setCell ⟨p8, 5, none⟩ (.int .i64 (wrap64 (z36 : Int))) = W5 := ⟨_, rfl⟩
        have hO5 : Only p8 W4 W5 := by rw [← hW5]; exact ((((((Only.refl p8 W4).set 0 _).set 1 _).set 2 _).set 3 _).set 4 _).set 5 _
        have hk5 : Blk W5 p8 [.int .i64 (z4 : Int), .int .i64 (z8 : Int), .int .i64 (wrap64 (z12 : Int)), .int .u64 (z20 : Int), .int .i64 (wrap64 (z28 : Int)), .int .i64 (wrap64 (z36 : Int))] 47 := by rw [← hW5]; exact (((((hk8.set 0 _).set 1 _).set 2 _).set 3 _).set 4 _).set 5 _
        have hb5 : Below w3.heap.size w3 W5 := below_only hE4 hO5 hE4.size hp8
        have q5 := HQ3.out.ext hb5
        have HK5 := Lib.hid (HK3.out.ext hb5)
        have HU5 := Lib.hid (HU3.out.ext hb5)
        have HB5 := Lib.hid (HB3.out.trans (hb5.mono HB3.out.size))
        have HN5 := Lib.hid (fun W (hb : Below W5.heap.size W5 W) => HN0.out W (hb5.trans (hb.mono hb5.size)))
        have cb : W5.cell? ⟨b, o + 0, none⟩ = w3.cell? ⟨b, o + 0, none⟩ := (after hb5).1 b (o + 0) hb
        have HQ5 := Lib.hid q5
        have HW5 := Lib.hid hW5
        have ck8 := hk8.cells
        have mk8 := hk8.marks
        have lk8 := hk8.lt
        clear hE4 hG4 c3 m3 l3 hcW4 hfW4 hO5 hb5 q5 cb hW5 HN4 HN8 HN12 HN20 HN28 HN36 HN0
        go_wp2_with fail
        rw [HW5.out]
        have ck5 := hk5.cells
        have mk5 := hk5.marks
        have lk5 := hk5.lt
        have c5 := HQ5.out.cells
        have m5 := HQ5.out.marks
        have l5 := HQ5.out.lt
        clear ck8 mk8 lk8 hk8 hk5 HW5
        refine' wp_region_seqF [7] [.inl _, .inl _, .inl _, .inl _, .inl _, .inl _, .inl _, .inl _] (by kernel_rfl) (by kernel_rfl) ?main2
        case main2 =>
          refine wpParts_det (by rfl) (fun W hE hN => ?_) ?_
          · go_simp; refine ⟨Below.refl _ _, ?_⟩; rfl
          simp only [Act.put, List.setIfInBounds_toArray, List.set_cons_zero, List.set_cons_succ]
          refine wpParts_det (by rfl) (fun W hE hN => ?_) ?_
          · go_simp; refine ⟨Below.refl _ _, ?_⟩; rfl
          simp only [Act.put, List.setIfInBounds_toArray, List.set_cons_zero, List.set_cons_succ]
          refine wpParts_det (by rfl) (fun W hE hN => ?_) ?_
          · go_simp; refine ⟨Below.refl _ _, ?_⟩; rfl
          simp only [Act.put, List.setIfInBounds_toArray, List.set_cons_zero, List.set_cons_succ]
          refine wpParts_det (by rfl) (fun W hE hN => ?_) ?_
          · go_simp; refine ⟨Below.refl _ _, ?_⟩; refine (HN5.out W hE).mono ?_; rintro e w' ⟨rfl, hb⟩; refine ⟨?_, hb⟩; rfl
          simp only [Act.put, List.setIfInBounds_toArray, List.set_cons_zero, List.set_cons_succ]
          refine wpParts_det (by rfl) (fun W hE hN => ?_) ?_
          · go_simp; refine ⟨Below.refl _ _, ?_⟩; rw [HW0'.out]
          simp only [Act.put, List.setIfInBounds_toArray, List.set_cons_zero, List.set_cons_succ]
          refine wpParts_det (by rfl) (fun W hE hN => ?_) ?_
          · have hc := fun b o h => hE.cell (p := ⟨b, o, none⟩) h
            go_simp; refine ⟨Below.refl _ _, ?_⟩; rfl
          simp only [Act.put, List.setIfInBounds_toArray, List.set_cons_zero, List.set_cons_succ]
          refine wpParts_det (by rfl) (fun W hE hN => ?_) ?_
          · go_simp; refine ⟨Below.refl _ _, ?_⟩; rfl
          simp only [Act.put, List.setIfInBounds_toArray, List.set_cons_zero, List.set_cons_succ]
          refine wpParts_det (by rfl) (fun W hE hN => ?_) ?_
          · go_simp; refine ⟨Below.refl _ _, ?_⟩; rfl
          simp only [Act.put, List.setIfInBounds_toArray, List.set_cons_zero, List.set_cons_succ]
          refine wpParts_end fun W6 hE6 hG6 => ?_
          have hcW6 := fun b o h => hE6.cell (p := ⟨b, o, none⟩) h
          have hfW6 := fun b o h => hE6.frozen (p := ⟨b, o, none⟩) h
          have hq6 := HQ5.out.ext hE6
          have c6 := hq6.cells
          have m6 := hq6.marks
          have l6 := hq6.lt
          have HB6 := Lib.hid (HB5.out.trans (hE6.mono HB5.out.size))
          have HK6 := Lib.hid (HK5.out.ext hE6)
          have HU6 := Lib.hid (HU5.out.ext hE6)
          have hO := ((((((((Only.refl w.heap.size W6).set 0 (.slice ka kn kc)).set 1 (.int .i64 (z0 : Int))).set 2 (.int .i64 (z4 : Int))).set 3 (.int .i64 (z8 : Int))).set 4 (.int .i64 (wrap64 (z12 : Int)))).set 5 (.int .u64 (z20 : Int))).set 6 (.int .i64 (wrap64 (z28 : Int)))).set 7 (.int .i64 (wrap64 (z36 : Int)))
          have HO := Lib.hid hO
          clear hE6 hG6 c5 m5 l5 hcW6 hfW6 hq6 hO ck5 mk5 lk5
          go_wp2_with fail
          refine noPanic_normal ?_
          go_wp2
          refine bodyPost_ret (v := .tuple #[kidV ka kn kc (kidAt key r2), .slice ua un uc, .bool true]) (by rw [HKA.out]; unfold kidV; dsimp only; rw [HHI.out.1, HHI.out.2]; simp [results, Try.results49, go_sem, *]) rfl ⟨ka, kn, kc, ua, un, uc, rfl, ?_, ?_, HUP.out, ?_⟩
          · exact HK6.out.same HO.out.size (fun b h hlt => HO.out.block b hlt (by have := HS.out b h; omega))
          · exact HU6.out.same HO.out.size (fun b h hlt => HO.out.block b hlt (by have := HS.out b h; omega))
          · have h := HB6.out; have hsz := h.size; exact (by repeat (first | (with_reducible exact Below.refl _ _) | (with_reducible exact Below.refl _ _) | (with_reducible refine Below.setCell ?_ (by first | omega | (simp; done) | (simp; omega)) _) | (with_reducible refine Below.alloc ?_ (by first | omega | (simp; done) | (simp; omega)) _) | (with_reducible refine Below.drew ?_) | (with_reducible refine below_drewN ?_ _) | (with_reducible refine Below.trans ?_ (h.mono (by first | omega | (simp; done) | (simp; omega))))))
end Go.Proofs.Ytfhhcpolicdfpaa
