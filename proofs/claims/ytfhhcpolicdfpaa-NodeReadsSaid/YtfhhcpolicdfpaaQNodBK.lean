/-
  The reference of layer 14: counted, number, item, walked.
-/
import Derived.Test.YtfhhcpolicdfpaaQNodBI
import Derived.Test.YtfhhcpolicdfpaaQNodBJ
import Derived.Test.YtfhhcpolicdfpaaNdK
import Derived.Test.YtfhhcpolicdfpaaQLawNA
namespace Go.Dav
set_option linter.unusedVariables false
set_option linter.unusedSimpArgs false
open Go Go.RowKit
/-- Two slices and true: bytes, and what is left. -/
def GivesCut (S : Nat → Prop) (w : World) (x r : List UInt8) (e : Ending) (w' : World) : Prop :=
  ∃ ka kn kc ra rn rc, e = .returned (.tuple #[.slice ka kn kc, .slice ra rn rc, .bool true]) ∧ BytesS w' S ka kn kc x ∧ plainA ka ∧ BytesS w' S ra rn rc r ∧ plainA ra ∧ Below w.heap.size w w'
theorem i64_byte (x : UInt8) : IntKind.i64.wrap (x.toNat : Int) = (x.toNat : Int) := by have := x.toNat_lt; rw [i64_wrap_def]; omega
end Go.Dav
namespace Go.Proofs.Ytfhhcpolicdfpaa
set_option linter.unusedVariables false
set_option linter.unusedSimpArgs false
open Go.RowKit Go.Dav
attribute [local go_sem] Gives ite_val ite_val_true

theorem Try_rCutL_yes (S : Nat → Prop) (a : Option Addr) (n c k : Nat) (l : List UInt8) (w : World) (hB : BytesS w S a n c l) (hf : plainA a) (hk : k ≤ n) (hk8 : k ≤ 1000) :
    Calls Try.prog 61 #[.slice a n c, .int .i64 (k : Int)] w (GivesCut S w (l.take k) (l.drop k)) :=
  (Try_rCut_yes S ⟨a, n, c, l, true⟩ k w ⟨rfl, hB, hf⟩ hk hk8).mono fun _ _ ⟨he, hb⟩ => ⟨_, _, _, _, _, _, he, (hB.takeC hk).ext hb, hf, (hB.drop hk).ext hb, hf.adv _ _, hb⟩
theorem Try_rCounted_yes (S : Nat → Prop) (a : Option Addr) (n c : Nat) (l x r : List UInt8) (w : World) (hB : BytesS w S a n c l) (hf : plainA a) (hc : cntL l = some (x, r)) :
    Calls Try.prog 60 #[.slice a n c] w (GivesCut S w x r) := by
  cases l with
  | nil => cases hc
  | cons k q =>
    rw [cntL_cons] at hc
    split at hc
    · rename_i hk
      cases hc
      have hl := hB.at_.hlen
      simp only [List.length_cons] at hl
      have hn : 1 ≤ n := by omega
      have h : RsAt w S ⟨a, n, c, k :: q, true⟩ := ⟨rfl, hB, hf⟩
      have h1 := h.next (k := 1) hn
      have e1 := h.next_eq (k := 1) hn
      have hnum : TkSt.num ⟨a, n, c, k :: q, true⟩ 1 = k.toNat := by unfold TkSt.num; rw [h.bytes hn, num_cons]
      rw [e1] at h1
      have hk8 := k.toNat_lt
      have hct := Try_rCounted_at S ⟨a, n, c, k :: q, true⟩ w h hn (advA a c 1) (advA (advA a c 1) (c - 1) k.toNat) k.toNat (c - 1) (n - 1 - k.toNat) (c - 1 - k.toNat) true fun W hb => by
        rw [hnum]
        exact Try_rCut_yes S ⟨advA a c 1, n - 1, c - 1, q, true⟩ k.toNat W (h1.ext hb) (show k.toNat ≤ n - 1 by omega) (by omega)
      have hq : BytesS w S (advA a c 1) (n - 1) (c - 1) q := hB.drop hn
      exact hct.mono fun e w' ⟨he, hb⟩ => ⟨_, _, _, _, _, _, he, (hq.takeC (by omega)).ext hb, hf.adv _ _, (hq.drop (by omega)).ext hb, (hf.adv _ _).adv _ _, hb⟩
    · cases hc
theorem Try_rCounted_no (S : Nat → Prop) (a : Option Addr) (n c : Nat) (l : List UInt8) (w : World) (hB : BytesS w S a n c l) (hf : plainA a) (hc : cntL l = none) :
    Calls Try.prog 60 #[.slice a n c] w fun e w' => e = .returned (.tuple #[.slice none 0 0, .slice none 0 0, .bool false]) ∧ Below w.heap.size w w' := by
  have hl := hB.at_.hlen
  cases l with
  | nil => exact Try_rCounted_nil ⟨a, n, c, [], true⟩ w (by simpa using hl.symm)
  | cons k q =>
    rw [cntL_cons] at hc
    split at hc
    · cases hc
    · rename_i hk
      simp only [List.length_cons] at hl
      have hn : 1 ≤ n := by omega
      have h : RsAt w S ⟨a, n, c, k :: q, true⟩ := ⟨rfl, hB, hf⟩
      have hnum : TkSt.num ⟨a, n, c, k :: q, true⟩ 1 = k.toNat := by unfold TkSt.num; rw [h.bytes hn, num_cons]
      have hk8 := k.toNat_lt
      have hfew := hB.at_.hfew
      refine Try_rCounted_at S ⟨a, n, c, k :: q, true⟩ w h hn _ _ _ _ _ _ false fun W hb => ?_
      rw [hnum]
      exact Try_rCut_no ⟨advA a c 1, n - 1, c - 1, q, true⟩ k.toNat W (show ¬ k.toNat ≤ n - 1 by omega) (by omega) (show n - 1 ≤ _ by omega)
set_option maxRecDepth 8000 in
set_option maxHeartbeats 4000000 in
theorem Try_rNumber (a : Option Addr) (n c : Nat) (l : List UInt8) (w : World) (hB : BytesAt w a n c l) (hn : n ≤ 8) :
    Calls Try.prog 62 #[.slice a n c] w fun e w' => e = .returned (.int .u64 (numOf l : Nat)) ∧ Below w.heap.size w w' := by
  have hl := hB.hlen
  have hn' : (n : Int) ≤ 8 := by omega
  have HB := Lib.hid hB
  have HL := Lib.hid hl
  have HN := Lib.hid hn
  clear hB hl hn
  go_enter Try.func62, Try.ntmps62
  go_wp2_with fail
  go_loopw [3, 4] (fun xv ix wr => ∃ k : Nat, k ≤ n ∧ ix = .int .i64 k ∧ xv = .int .u64 (numOf (l.take k) : Nat) ∧ Below w.heap.size w wr) (fun _ ix _ => n - (intOf ix).toNat)
  case atStart => exact ⟨0, Nat.zero_le _, rfl, rfl, Below.refl _ _⟩
  case round =>
    obtain ⟨k, hk, rfl, rfl, hbel⟩ := hrel
    have HBE := Lib.hid hbel
    by_cases hlt : k < n
    · obtain ⟨x, hx⟩ : ∃ x, l[k]? = some x := ⟨_, List.getElem?_eq_getElem (by have := HL.out; omega)⟩
      obtain ⟨b, o, rfl, hb, hc⟩ := (HB.out.ext hbel).hat k x hx
      have hlt' : (k : Int) < (n : Int) := by omega
      have hk0 : ¬ (k : Int) < 0 := by omega
      have HLT := Lib.hid hlt
      have hnx := numOf_take hx
      have hlo : numOf (l.take k) < 72057594037927936 := by
        have h1 := numOf_lt (l.take k)
        have h2 : 256 ^ (l.take k).length ≤ 256 ^ 7 := Nat.pow_le_pow_right (by omega) (by rw [List.length_take]; have := HN.out; omega)
        omega
      have hx8 := x.toNat_lt
      obtain ⟨y, hy⟩ : ∃ y, numOf (l.take k) = y := ⟨_, rfl⟩
      rw [hy] at hnx hlo ⊢
      have HNX := Lib.hid hnx
      have M := Lib.hid (show IntKind.u64.wrap (IntKind.u64.wrap ((y : Int) * 256) + IntKind.u64.wrap (x.toNat : Int)) = ((y * 256 + x.toNat : Nat) : Int) by
        have e1 : IntKind.u64.wrap ((y : Int) * 256) = (y : Int) * 256 := by rw [wrap_u64]; omega
        have e2 : IntKind.u64.wrap (x.toNat : Int) = (x.toNat : Int) := by rw [wrap_u64]; omega
        rw [e1, e2, wrap_u64]; omega)
      clear hx hbel hlt hk hnx hlo hx8 hy
      go_wp2_with fail
      go_roundw
      case rel => exact ⟨k + 1, HLT.out, by go_num, by rw [HNX.out, M.out], HBE.out⟩
      case measure => simp [intOf]; have := HLT.out; omega
    · obtain rfl : k = n := by omega
      have hlt' : ¬ (k : Int) < (k : Int) := by omega
      rw [List.take_of_length_le (by rw [HL.out]; exact Nat.le_refl _)]
      clear hbel hlt hk
      go_wp2
      go_ret
      exact ⟨rfl, HBE.out⟩
theorem Try_rCut9 (S : Nat → Prop) (a : Option Addr) (n c : Nat) (l : List UInt8) (w : World) (hB : BytesS w S a n c l) (hf : plainA a) (hk : 9 ≤ l.length) :
    Calls Try.prog 61 #[.slice a n c, .int .i64 9] w (GivesCut S w (l.take 9) (l.drop 9)) := Try_rCutL_yes S a n c 9 l w hB hf (by rw [← hB.at_.hlen]; exact hk) (by omega)
theorem Try_rCut9_no (S : Nat → Prop) (a : Option Addr) (n c : Nat) (l : List UInt8) (w : World) (hB : BytesS w S a n c l) (hk : ¬ 9 ≤ l.length) :
    Calls Try.prog 61 #[.slice a n c, .int .i64 9] w fun e w' => e = .returned (.tuple #[.slice none 0 0, .slice none 0 0, .bool false]) ∧ Below w.heap.size w w' := Try_rCut_no ⟨a, n, c, l, true⟩ 9 w (by rw [← hB.at_.hlen]; exact hk) (by omega) hB.at_.hfew
def itemCellV (ka va : Option Addr) (kn kc vn vc : Nat) (x : ItemD) : Value := .agg #[.slice ka kn kc, .slice va vn vc, .bool x.int, .int .i64 x.n]
/-- An item, what is left, and true. -/
def GivesItem (S : Nat → Prop) (w : World) (x : ItemD) (r : List UInt8) (e : Ending) (w' : World) : Prop :=
  ∃ ka kn kc va vn vc ra rn rc, e = .returned (.tuple #[itemCellV ka va kn kc vn vc x, .slice ra rn rc, .bool true]) ∧ BytesS w' S ka kn kc x.key ∧ BytesS w' S va vn vc x.value ∧ BytesS w' S ra rn rc r ∧ plainA ra ∧ Below w.heap.size w w'
set_option maxRecDepth 8000 in
set_option maxHeartbeats 8000000 in
theorem Try_rItemAt (S : Nat → Prop) (a : Option Addr) (n c : Nat) (l : List UInt8) (w : World) (hB : BytesS w S a n c l) (hf : plainA a) (hS : ∀ b, S b → b < w.heap.size) :
    (itemL l = none → Calls Try.prog 48 #[.slice a n c] w fun e w' => e = .returned (.tuple #[.agg #[.slice none 0 0, .slice none 0 0, .bool false, .int .i64 0], .slice none 0 0, .bool false]) ∧ Below w.heap.size w w') ∧
    (∀ x r, itemL l = some (x, r) → Calls Try.prog 48 #[.slice a n c] w (GivesItem S w x r)) := by
  obtain ⟨w0, hw0⟩ : ∃ w0, w.alloc (.cells #[.slice none 0 0, .slice none 0 0, .bool false, .int .i64 0] 56) = w0 := ⟨_, rfl⟩
  have hb0 : Below w.heap.size w w0 := by rw [← hw0]; exact (by repeat (first | (with_reducible exact Below.refl _ _) | (with_reducible exact Below.refl _ _) | (with_reducible refine Below.setCell ?_ (by first | omega | (simp; done) | (simp; omega)) _) | (with_reducible refine Below.alloc ?_ (by first | omega | (simp; done) | (simp; omega)) _) | (with_reducible refine Below.drew ?_) | (with_reducible refine below_drewN ?_ _)))
  have q0 : Blk w0 w.heap.size [.slice none 0 0, .slice none 0 0, .bool false, .int .i64 0] 56 := by rw [← hw0]; exact Blk.new w _ _
  have HS := Lib.hid hS
  have HQ0 := Lib.hid q0
  have HB0 := Lib.hid hb0
  have HY := Lib.hid (hB.ext hb0)
  have HF := Lib.hid hf
  have HW0 := Lib.hid hw0
  clear hb0 q0 hB hf hw0 hS
  cases hc : cntL l with
  | none =>
    have hit : itemL l = none := by unfold itemL; rw [hc]
    have HC := Lib.hid (Try_rCounted_no S a n c l _ HY.out HF.out hc)
    refine ⟨fun _ => ?_, fun x r e => by rw [hit] at e; cases e⟩
    clear hc hit
    go_enter Try.func48, Try.ntmps48
    go_wp2_with fail
    rw [HW0.out]
    (with_reducible refine HC.out.mono ?_); rintro e w1 ⟨rfl, hb1⟩
    have q1 := HQ0.out.ext hb1
    have HB1 := Lib.hid (HB0.out.trans (hb1.mono HB0.out.size))
    have c1 := q1.cells
    have m1 := q1.marks
    have l1 := q1.lt
    clear hb1 q1 HC
    go_wp2
    refine bodyPost_ret (v := .tuple #[.agg #[.slice none 0 0, .slice none 0 0, .bool false, .int .i64 0], .slice none 0 0, .bool false]) (by simp [results, Try.results48, go_sem, *]) rfl ⟨rfl, ?_⟩
    have h := HB1.out; have hsz := h.size; exact (by repeat (first | (with_reducible exact Below.refl _ _) | (with_reducible exact Below.refl _ _) | (with_reducible refine Below.setCell ?_ (by first | omega | (simp; done) | (simp; omega)) _) | (with_reducible refine Below.alloc ?_ (by first | omega | (simp; done) | (simp; omega)) _) | (with_reducible refine Below.drew ?_) | (with_reducible refine below_drewN ?_ _) | (with_reducible refine Below.trans ?_ (h.mono (by first | omega | (simp; done) | (simp; omega))))))
  | some p =>
    obtain ⟨key, r1⟩ := p
    have HC := Lib.hid (Try_rCounted_yes S a n c l key r1 _ HY.out HF.out hc)
    cases hc2 : cntL r1 with
    | none =>
      have hit : itemL l = none := by unfold itemL; rw [hc]; dsimp only; rw [hc2]
      have H2 := Lib.hid hc2
      refine ⟨fun _ => ?_, fun x r e => by rw [hit] at e; cases e⟩
      clear hc hit hc2
      go_enter Try.func48, Try.ntmps48
      go_wp2_with fail
      rw [HW0.out]
      (with_reducible refine HC.out.mono ?_); rintro e w1 ⟨ka, kn, kc, ra, rn, rc, rfl, hK, hkp, hR, hrp, hb1⟩
      have q1 := HQ0.out.ext hb1
      have HQ1 := Lib.hid q1
      have HB1 := Lib.hid (HB0.out.trans (hb1.mono HB0.out.size))
      have HC2 := Lib.hid (Try_rCounted_no S ra rn rc r1 w1 hR hrp H2.out)
      clear hb1 q1 HC hK hkp hR hrp H2
      go_wp2_with fail
      (with_reducible refine HC2.out.mono ?_); rintro e w2 ⟨rfl, hb2⟩
      have q2 := HQ1.out.ext hb2
      have HB2 := Lib.hid (HB1.out.trans (hb2.mono HB1.out.size))
      have c2 := q2.cells
      have m2 := q2.marks
      have l2 := q2.lt
      clear hb2 q2 HC2
      go_wp2
      refine bodyPost_ret (v := .tuple #[.agg #[.slice none 0 0, .slice none 0 0, .bool false, .int .i64 0], .slice none 0 0, .bool false]) (by simp [results, Try.results48, go_sem, *]) rfl ⟨rfl, ?_⟩
      have h := HB2.out; have hsz := h.size; exact (by repeat (first | (with_reducible exact Below.refl _ _) | (with_reducible exact Below.refl _ _) | (with_reducible refine Below.setCell ?_ (by first | omega | (simp; done) | (simp; omega)) _) | (with_reducible refine Below.alloc ?_ (by first | omega | (simp; done) | (simp; omega)) _) | (with_reducible refine Below.drew ?_) | (with_reducible refine below_drewN ?_ _) | (with_reducible refine Below.trans ?_ (h.mono (by first | omega | (simp; done) | (simp; omega))))))
    | some p2 =>
      obtain ⟨val, r2⟩ := p2
      have H2 := Lib.hid hc2
      by_cases h9 : 9 ≤ r2.length
      · have hit : itemL l = some (itemAt key val r2, r2.drop 9) := by unfold itemL; rw [hc]; dsimp only; rw [hc2]; dsimp only; rw [if_pos h9]
        refine ⟨fun e => (by rw [hit] at e; cases e), fun x r e => ?_⟩
        rw [hit] at e
        cases e
        have H9 := Lib.hid h9
        clear hc hit hc2 h9
        go_enter Try.func48, Try.ntmps48
        go_wp2_with fail
        rw [HW0.out]
        (with_reducible refine HC.out.mono ?_); rintro e w1 ⟨ka, kn, kc, ra, rn, rc, rfl, hK, hkp, hR, hrp, hb1⟩
        have HQ1 := Lib.hid (HQ0.out.ext hb1)
        have HB1 := Lib.hid (HB0.out.trans (hb1.mono HB0.out.size))
        have HC2 := Lib.hid (Try_rCounted_yes S ra rn rc r1 val r2 w1 hR hrp H2.out)
        have HK1 := Lib.hid hK
        clear hb1 HC hK hkp hR hrp H2
        go_wp2_with fail
        (with_reducible refine HC2.out.mono ?_); rintro e w2 ⟨va, vn, vc, sa, sn, sc, rfl, hV, hvp, hR, hrp, hb2⟩
        have HQ2 := Lib.hid (HQ1.out.ext hb2)
        have HB2 := Lib.hid (HB1.out.trans (hb2.mono HB1.out.size))
        have HK2 := Lib.hid (HK1.out.ext hb2)
        have HV2 := Lib.hid hV
        have HC3 := Lib.hid (Try_rCut9 S sa sn sc r2 w2 hR hrp H9.out)
        clear hb2 HC2 hV hvp hR hrp
        go_wp2_with fail
        (with_reducible refine HC3.out.mono ?_); rintro e w3 ⟨ta, tn, tc, ua, un, uc, rfl, hT, htp, hU, hup, hb3⟩
        have q3 := HQ2.out.ext hb3
        have HQ3 := Lib.hid q3
        have HB3 := Lib.hid (HB2.out.trans (hb3.mono HB2.out.size))
        have HK3 := Lib.hid (HK2.out.ext hb3)
        have HV3 := Lib.hid (HV2.out.ext hb3)
        have HU3 := Lib.hid hU
        have HUP := Lib.hid hup
        have htl := hT.at_.hlen
        rw [List.length_take, Nat.min_eq_left H9.out] at htl
        subst htl
        obtain ⟨y, hy⟩ : ∃ y, r2[0]? = some y := ⟨_, List.getElem?_eq_getElem (by have := H9.out; omega)⟩
        obtain ⟨b, o, rfl, hb, hc0⟩ := hT.at_.hat 0 y (by rw [List.getElem?_take, if_pos (by omega)]; exact hy)
        rw [Nat.add_zero] at hc0
        have htc := hT.at_.hcap
        have hn1 : numOf (r2.take 1) = y.toNat := by rw [List.take_add_one, hy]; simp [numOf]
        have hd : (r2.take 9).drop 1 = (r2.drop 1).take 8 := by rw [List.drop_take]
        have hnb : BytesS w3 S (some ⟨b, o + 1, none⟩) 8 (tc - 1) ((r2.drop 1).take 8) := by
          have h := hT.drop (k := 1) (by omega)
          rw [hd] at h
          unfold advA at h
          rw [if_neg (by omega)] at h
          exact h
        have HNB := Lib.hid (fun W (hb : Below w3.heap.size w3 W) => Try_rNumber (some ⟨b, o + 1, none⟩) 8 (tc - 1) ((r2.drop 1).take 8) W (hnb.at_.ext hb) (Nat.le_refl _))
        have hit : itemAt key val r2 = ⟨key, val, decide (y.toNat = 1), wrap64 (numOf ((r2.drop 1).take 8) : Nat)⟩ := by unfold itemAt; rw [hn1]
        have HIT := Lib.hid hit
        obtain ⟨z, hz⟩ : ∃ z, numOf ((r2.drop 1).take 8) = z := ⟨_, rfl⟩
        rw [hz] at HNB HIT
        have HWR := Lib.hid (show IntKind.i64.wrap (z : Int) = wrap64 (z : Int) by rw [i64_wrap_def, wrap64_def])
        have HYD := Lib.hid (show (((y.toNat : Int)) == 1) = decide (y.toNat = 1) by rw [Bool.eq_iff_iff]; simp; omega)
        have t1 : ¬ tc - 1 = 0 := by omega
        have t2 : ¬ tc = 1 := by omega
        have t3 : (9 : Int) ≤ (tc : Int) := by omega
        have c3 := q3.cells
        have m3 := q3.marks
        have l3 := q3.lt
        clear hb3 HC3 hT htp hU hup q3 hy hn1 hd hnb hit hz htc
        go_wp2_with fail
        refine' wp_region_seqF [11] [.inl _, .inl _, .inl _, .inl _, .inl _, .inl _, .inl _, .inl _, .inl _, .inl _, .inl _, .inl _] (by kernel_rfl) (by kernel_rfl) ?main1
        case main1 =>
          refine wpParts_det (by rfl) (fun W hE hN => ?_) ?_
          · go_simp; refine ⟨Below.refl _ _, ?_⟩; rfl
          simp only [Act.put, List.setIfInBounds_toArray, List.set_cons_zero, List.set_cons_succ]
          refine wpParts_det (by rfl) (fun W hE hN => ?_) ?_
          · go_simp; refine ⟨Below.refl _ _, ?_⟩; rfl
          simp only [Act.put, List.setIfInBounds_toArray, List.set_cons_zero, List.set_cons_succ]
          refine wpParts_det (by rfl) (fun W hE hN => ?_) ?_
          · go_simp; refine ⟨Below.refl _ _, ?_⟩; rfl
          simp only [Act.put, List.setIfInBounds_toArray, List.set_cons_zero, List.set_cons_succ]
          refine wpParts_det (by rfl) (fun W hE hN => ?_) ?_
          · go_simp; refine ⟨Below.refl _ _, ?_⟩; rfl
          simp only [Act.put, List.setIfInBounds_toArray, List.set_cons_zero, List.set_cons_succ]
          refine wpParts_det (by rfl) (fun W hE hN => ?_) ?_
          · have hc := fun b o h => hE.cell (p := ⟨b, o, none⟩) h
            go_simp; refine ⟨Below.refl _ _, ?_⟩; rfl
          simp only [Act.put, List.setIfInBounds_toArray, List.set_cons_zero, List.set_cons_succ]
          refine wpParts_det (by rfl) (fun W hE hN => ?_) ?_
          · go_simp; refine ⟨Below.refl _ _, ?_⟩; rw [HYD.out]
          simp only [Act.put, List.setIfInBounds_toArray, List.set_cons_zero, List.set_cons_succ]
          refine wpParts_det (by rfl) (fun W hE hN => ?_) ?_
          · go_simp; refine ⟨Below.refl _ _, ?_⟩; rfl
          simp only [Act.put, List.setIfInBounds_toArray, List.set_cons_zero, List.set_cons_succ]
          refine wpParts_det (by rfl) (fun W hE hN => ?_) ?_
          · go_simp; refine ⟨Below.refl _ _, ?_⟩; rfl
          simp only [Act.put, List.setIfInBounds_toArray, List.set_cons_zero, List.set_cons_succ]
          refine wpParts_det (by rfl) (fun W hE hN => ?_) ?_
          · go_simp; refine ⟨Below.refl _ _, ?_⟩; refine (HNB.out W hE).mono ?_; rintro e w' ⟨rfl, hb⟩; refine ⟨?_, hb⟩; rfl
          simp only [Act.put, List.setIfInBounds_toArray, List.set_cons_zero, List.set_cons_succ]
          refine wpParts_det (by rfl) (fun W hE hN => ?_) ?_
          · go_simp; refine ⟨Below.refl _ _, ?_⟩; rw [HWR.out]
          simp only [Act.put, List.setIfInBounds_toArray, List.set_cons_zero, List.set_cons_succ]
          refine wpParts_det (by rfl) (fun W hE hN => ?_) ?_
          · go_simp; refine ⟨Below.refl _ _, ?_⟩; rfl
          simp only [Act.put, List.setIfInBounds_toArray, List.set_cons_zero, List.set_cons_succ]
          refine wpParts_det (by rfl) (fun W hE hN => ?_) ?_
          · go_simp; refine ⟨Below.refl _ _, ?_⟩; rfl
          simp only [Act.put, List.setIfInBounds_toArray, List.set_cons_zero, List.set_cons_succ]
          refine wpParts_end fun W4 hE4 hG4 => ?_
          have hcW4 := fun b o h => hE4.cell (p := ⟨b, o, none⟩) h
          have hfW4 := fun b o h => hE4.frozen (p := ⟨b, o, none⟩) h
          have hq4 := HQ3.out.ext hE4
          have c4 := hq4.cells
          have m4 := hq4.marks
          have l4 := hq4.lt
          have HB4 := Lib.hid (HB3.out.trans (hE4.mono HB3.out.size))
          have HK4 := Lib.hid (HK3.out.ext hE4)
          have HV4 := Lib.hid (HV3.out.ext hE4)
          have HU4 := Lib.hid (HU3.out.ext hE4)
          have hO := (((((Only.refl w.heap.size W4).set 0 (.slice ka kn kc)).set 1 (.slice va vn vc)).set 2 (.bool (decide (y.toNat = 1)))).set 3 (.int .i64 (wrap64 (z : Int))))
          have HO := Lib.hid hO
          clear hE4 hG4 c3 m3 l3 hcW4 hfW4 hq4 hO
          go_wp2_with fail
          refine noPanic_normal ?_
          go_wp2
          refine bodyPost_ret (v := .tuple #[itemCellV ka va kn kc vn vc (itemAt key val r2), .slice ua un uc, .bool true]) (by rw [HIT.out]; simp [results, Try.results48, go_sem, itemCellV, *]) rfl ⟨ka, kn, kc, va, vn, vc, ua, un, uc, rfl, ?_, ?_, ?_, HUP.out, ?_⟩
          · exact HK4.out.same HO.out.size (fun b h hlt => HO.out.block b hlt (by have := HS.out b h; omega))
          · exact HV4.out.same HO.out.size (fun b h hlt => HO.out.block b hlt (by have := HS.out b h; omega))
          · exact HU4.out.same HO.out.size (fun b h hlt => HO.out.block b hlt (by have := HS.out b h; omega))
          · have h := HB4.out; have hsz := h.size; exact (by repeat (first | (with_reducible exact Below.refl _ _) | (with_reducible exact Below.refl _ _) | (with_reducible refine Below.setCell ?_ (by first | omega | (simp; done) | (simp; omega)) _) | (with_reducible refine Below.alloc ?_ (by first | omega | (simp; done) | (simp; omega)) _) | (with_reducible refine Below.drew ?_) | (with_reducible refine below_drewN ?_ _) | (with_reducible refine Below.trans ?_ (h.mono (by first | omega | (simp; done) | (simp; omega))))))
      · have hit : itemL l = none := by unfold itemL; rw [hc]; dsimp only; rw [hc2]; dsimp only; rw [if_neg h9]
        refine ⟨fun _ => ?_, fun x r e => by rw [hit] at e; cases e⟩
        have H9 := Lib.hid h9
        clear hc hit hc2 h9
        go_enter Try.func48, Try.ntmps48
        go_wp2_with fail
        rw [HW0.out]
        (with_reducible refine HC.out.mono ?_); rintro e w1 ⟨ka, kn, kc, ra, rn, rc, rfl, hK, hkp, hR, hrp, hb1⟩
        have HQ1 := Lib.hid (HQ0.out.ext hb1)
        have HB1 := Lib.hid (HB0.out.trans (hb1.mono HB0.out.size))
        have HC2 := Lib.hid (Try_rCounted_yes S ra rn rc r1 val r2 w1 hR hrp H2.out)
        clear hb1 HC hK hkp hR hrp H2
        go_wp2_with fail
        (with_reducible refine HC2.out.mono ?_); rintro e w2 ⟨va, vn, vc, sa, sn, sc, rfl, hV, hvp, hR, hrp, hb2⟩
        have HQ2 := Lib.hid (HQ1.out.ext hb2)
        have HB2 := Lib.hid (HB1.out.trans (hb2.mono HB1.out.size))
        have HC3 := Lib.hid (Try_rCut9_no S sa sn sc r2 w2 hR H9.out)
        clear hb2 HC2 hV hvp hR hrp
        go_wp2_with fail
        (with_reducible refine HC3.out.mono ?_); rintro e w3 ⟨rfl, hb3⟩
        have q3 := HQ2.out.ext hb3
        have HB3 := Lib.hid (HB2.out.trans (hb3.mono HB2.out.size))
        have c3 := q3.cells
        have m3 := q3.marks
        have l3 := q3.lt
        clear hb3 q3 HC3
        go_wp2
        refine bodyPost_ret (v := .tuple #[.agg #[.slice none 0 0, .slice none 0 0, .bool false, .int .i64 0], .slice none 0 0, .bool false]) (by simp [results, Try.results48, go_sem, *]) rfl ⟨rfl, ?_⟩
        have h := HB3.out; have hsz := h.size; exact (by repeat (first | (with_reducible exact Below.refl _ _) | (with_reducible exact Below.refl _ _) | (with_reducible refine Below.setCell ?_ (by first | omega | (simp; done) | (simp; omega)) _) | (with_reducible refine Below.alloc ?_ (by first | omega | (simp; done) | (simp; omega)) _) | (with_reducible refine Below.drew ?_) | (with_reducible refine below_drewN ?_ _) | (with_reducible refine Below.trans ?_ (h.mono (by first | omega | (simp; done) | (simp; omega))))))
end Go.Proofs.Ytfhhcpolicdfpaa
