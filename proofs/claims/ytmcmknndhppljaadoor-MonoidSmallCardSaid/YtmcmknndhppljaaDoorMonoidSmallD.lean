/-
  The reference of layer 1: Begin, walked.
  The reference of layer 1: Points, Valid, walked.
  Layer 4: values, in plain; how they lie in memory.
  The reference of layer 4: Zero, alone, walked.
-/
import Derived.Test.YtmcmknndhppljaaDoorMonoidSmallC
import Derived.BigRegion
import Derived.Lib.ConvBytes
import Derived.Laws.EntriesVeiled
import Derived.BigQuiet
namespace Go.Dav
set_option linter.unusedVariables false
set_option linter.unusedSimpArgs false
open Go Go.RowKit
/-- What a number is made of, of the first byte. -/
def cpFirst (b : List UInt8) (n : Nat) : Nat :=
  match b with
  | [] => 0
  | x :: _ => if n = 1 then x.toNat else if n = 2 then x.toNat % 32 else if n = 3 then x.toNat % 16 else x.toNat % 8
/-- .. and of the next ones, up to the i-th. -/
def cpTo (b : List UInt8) (n i : Nat) : Nat := ((b.take i).drop 1).foldl (fun c x => c * 64 + x.toNat % 64) (cpFirst b n)
def cpAt (b : List UInt8) (n : Nat) : Nat := cpTo b n n
theorem cpTo_one (b : List UInt8) (n : Nat) : cpTo b n 1 = cpFirst b n := by
  unfold cpTo; cases b <;> simp
theorem cpTo_succ {b : List UInt8} {n i : Nat} {x : UInt8} (hi : 1 ≤ i) (hx : b[i]? = some x) : cpTo b n (i + 1) = cpTo b n i * 64 + x.toNat % 64 := by
  unfold cpTo
  have hl := (List.getElem?_eq_some_iff.1 hx).1
  have e : b.take (i + 1) = b.take i ++ [x] := by rw [List.take_add_one, hx]; rfl
  rw [e, List.drop_append_of_le_length (by rw [List.length_take]; omega), List.foldl_append]
  rfl
theorem cpFirst_le (b : List UInt8) (n : Nat) : cpFirst b n < 256 ∧ (2 ≤ n → cpFirst b n < 32) ∧ (3 ≤ n → cpFirst b n < 16) ∧ (4 ≤ n → cpFirst b n < 8) := by
  unfold cpFirst
  cases b with
  | nil => simp
  | cons x xs =>
    have := x.toNat_lt
    dsimp only
    by_cases h1 : n = 1
    · rw [if_pos h1]; omega
    · rw [if_neg h1]
      by_cases h2 : n = 2
      · rw [if_pos h2]; omega
      · rw [if_neg h2]
        by_cases h3 : n = 3
        · rw [if_pos h3]; omega
        · rw [if_neg h3]; omega
theorem cpTo_le (b : List UInt8) (n : Nat) : ∀ i, 1 ≤ i → i ≤ 4 → i ≤ b.length → cpTo b n i < 256 * 64 ^ (i - 1)
  | 0, h, _, _ => by omega
  | 1, _, _, _ => by rw [cpTo_one]; have := (cpFirst_le b n).1; simpa using this
  | i + 2, _, h4, hl => by
    have ih := cpTo_le b n (i + 1) (by omega) (by omega) (by omega)
    obtain ⟨x, hx⟩ : ∃ x, b[i + 1]? = some x := ⟨_, List.getElem?_eq_getElem (by omega)⟩
    rw [cpTo_succ (by omega) hx]
    rw [show i + 1 - 1 = i by omega] at ih
    rw [show i + 2 - 1 = i + 1 by omega, Nat.pow_succ]
    omega
theorem cpTo_lt (b : List UInt8) (n i : Nat) (h1 : 1 ≤ i) (h4 : i ≤ 4) (hl : i ≤ b.length) : cpTo b n i < 67108864 := by
  have h := cpTo_le b n i h1 h4 hl
  have : (256 * 64 ^ (i - 1) : Nat) ≤ 67108864 := by
    rcases (by omega : i = 1 ∨ i = 2 ∨ i = 3 ∨ i = 4) with rfl | rfl | rfl | rfl <;> decide
  omega
/-- Do the first n bytes make a code point whose bytes they are? -/
def beginOk (b : List UInt8) (n : Nat) : Bool := decide (n ≤ b.length) && (isCp (cpAt b n) && decide (cpBytes (cpAt b n) = b.take n))
/-- The code point that begins a row, and its size. -/
def beginOf (b : List UInt8) : Nat × Nat :=
  if beginOk b 1 = true then (cpAt b 1, 1) else if beginOk b 2 = true then (cpAt b 2, 2) else if beginOk b 3 = true then (cpAt b 3, 3) else if beginOk b 4 = true then (cpAt b 4, 4) else (0, 0)
theorem beginOf_ok {b : List UInt8} {n : Nat} (h1 : 1 ≤ n) (h4 : n ≤ 4) (h : beginOk b n = true) (hb : ∀ m, 1 ≤ m → m < n → beginOk b m = false) : beginOf b = (cpAt b n, n) := by
  unfold beginOf
  rcases (by omega : n = 1 ∨ n = 2 ∨ n = 3 ∨ n = 4) with rfl | rfl | rfl | rfl
  · rw [if_pos h]
  · rw [if_neg (by rw [hb 1 (by omega) (by omega)]; decide), if_pos h]
  · rw [if_neg (by rw [hb 1 (by omega) (by omega)]; decide), if_neg (by rw [hb 2 (by omega) (by omega)]; decide), if_pos h]
  · rw [if_neg (by rw [hb 1 (by omega) (by omega)]; decide), if_neg (by rw [hb 2 (by omega) (by omega)]; decide), if_neg (by rw [hb 3 (by omega) (by omega)]; decide), if_pos h]
theorem beginOf_no {b : List UInt8} (hb : ∀ m, 1 ≤ m → m ≤ 4 → beginOk b m = false) : beginOf b = (0, 0) := by
  unfold beginOf
  rw [if_neg (by rw [hb 1 (by omega) (by omega)]; decide), if_neg (by rw [hb 2 (by omega) (by omega)]; decide), if_neg (by rw [hb 3 (by omega) (by omega)]; decide), if_neg (by rw [hb 4 (by omega) (by omega)]; decide)]
theorem startsB_take {b x : List UInt8} {n : Nat} (hn : n ≤ b.length) (hx : x.length = n) : startsB b x = decide (x = b.take n) := by
  unfold startsB
  rw [hx]
  by_cases h : x = b.take n
  · simp [h, hn]
  · have h' : ¬ b.take n = x := fun e => h e.symm
    simp [h, h', hn]
theorem beginOk_cases {b : List UInt8} {n : Nat} (hn : n ≤ b.length) : beginOk b n = (isCp (cpAt b n) && (decide ((cpBytes (cpAt b n)).length = n) && startsB b (cpBytes (cpAt b n)))) := by
  unfold beginOk
  rw [decide_eq_true hn, Bool.true_and]
  congr 1
  by_cases h : (cpBytes (cpAt b n)).length = n
  · rw [startsB_take hn h]; simp [h]
  · have : ¬ cpBytes (cpAt b n) = b.take n := fun e => h (by rw [e, List.length_take]; omega)
    simp [h, this]
end Go.Dav
namespace Go.Proofs.YtmcmknndhppljaaDoor
set_option linter.unusedVariables false
set_option linter.unusedSimpArgs false
open Go.RowKit Go.Dav
attribute [local go_sem] Gives ite_val ite_val_true

set_option maxRecDepth 8000 in
set_option maxHeartbeats 4000000 in
theorem Tryd_rBegin (ba : Option Addr) (bl bc : Nat) (b : List UInt8) (w : World) (hb : BytesAt w ba bl bc b) (h1 : 1 ≤ bl) :
    Calls Tryd.prog 75 #[.slice ba bl bc] w fun e w' => e = .returned (.tuple #[.int .i64 ((beginOf b).1 : Int), .int .i64 ((beginOf b).2 : Int)]) ∧ Below w.heap.size w w' := by
  obtain ⟨r, hr⟩ : ∃ r, beginOf b = r := ⟨_, rfl⟩
  rw [hr]
  have HR := Lib.hid hr
  have HB := Lib.hid hb
  have HL := Lib.hid hb.hlen
  have hbf := hb.hfew
  clear hr hb
  go_enter Tryd.func75, Tryd.ntmps75
  go_wp2_with fail
  go_loopw [4] (fun ix wr => ∃ n : Nat, 1 ≤ n ∧ n ≤ 5 ∧ ix = .int .i64 (n : Int) ∧ Below w.heap.size w wr ∧ ∀ m, 1 ≤ m → m < n → beginOk b m = false) (fun ix _ => 5 - (intOf ix).toNat)
  case atStart => exact ⟨1, by omega, by omega, by go_num, Below.refl _ _, fun m h h2 => by omega⟩
  case round =>
    obtain ⟨n, hn1, hn5, rfl, hbel, hno⟩ := hrel
    have HBE := Lib.hid hbel
    have HNO := Lib.hid hno
    clear hbel hno
    by_cases hn4 : n ≤ 4
    · by_cases hnl : n ≤ bl
      · obtain ⟨x0, hx0⟩ : ∃ x0, b[0]? = some x0 := ⟨_, List.getElem?_eq_getElem (by have := HL.out; omega)⟩
        obtain ⟨bb, bo, rfl, hbb, hbcell⟩ := (HB.out.ext HBE.out).hat 0 x0 hx0
        rw [Nat.add_zero] at hbcell
        have g1 : (n : Int) ≤ 4 := by omega
        have g2 : (n : Int) ≤ (bl : Int) := by omega
        have HX0 := Lib.hid hx0
        have hx8 := x0.toNat_lt
        have hbcons : ∃ xs, b = x0 :: xs := by
          cases b with
          | nil => simp at hx0
          | cons y ys => simp at hx0; exact ⟨ys, by rw [hx0]⟩
        have HBC := Lib.hid hbcons
        have HNL := Lib.hid hnl
        clear hx0 hbcons
        have hbl0 : 0 < bl := h1
        rcases (by omega : n = 1 ∨ n = 2 ∨ n = 3 ∨ n = 4) with rfl | rfl | rfl | rfl
        · have HCF := Lib.hid (show ((cpFirst b 1 : Nat) : Int) = (x0.toNat : Int) by obtain ⟨xs, e⟩ := HBC.out; rw [e]; rfl)
          clear hn1 hn5 hn4 hnl
          go_wp2_with fail
          go_loopw [5, 6] (fun cx ix wi => ∃ i : Nat, 1 ≤ i ∧ i ≤ 1 ∧ ix = .int .i64 (i : Int) ∧ cx = .int .i64 ((cpTo b 1 i : Nat) : Int) ∧ Below w.heap.size w wi) (fun _ ix _ => 1 - (intOf ix).toNat)
          case atStart => exact ⟨1, by omega, by omega, by go_num, by rw [cpTo_one, HCF.out], by have h := HBE.out; have hs := h.size; exact (by repeat (first | (with_reducible exact Below.refl _ _) | (with_reducible exact Below.refl _ _) | (with_reducible refine Below.setCell ?_ (by first | omega | (simp; done) | (simp; omega)) _) | (with_reducible refine Below.alloc ?_ (by first | omega | (simp; done) | (simp; omega)) _) | (with_reducible refine Below.drew ?_) | (with_reducible refine below_drewN ?_ _) | (with_reducible refine Below.trans ?_ (h.mono (by first | omega | (simp; done) | (simp; omega))))))⟩
          case round =>
            obtain ⟨i, hi1, hiN, rfl, rfl, hbi⟩ := hrel
            have HBI := Lib.hid hbi
            clear hbi
            by_cases hin : i < 1
            · obtain ⟨x, hx⟩ : ∃ x, b[i]? = some x := ⟨_, List.getElem?_eq_getElem (by have := HL.out; have := HNL.out; omega)⟩
              obtain ⟨bb2, bo2, e2, hbb2, hbcell2⟩ := (HB.out.ext HBI.out).hat i x hx
              cases e2
              have hlt := cpTo_lt b 1 i hi1 (by omega) (by have := HL.out; have := HNL.out; omega)
              have hs := cpTo_succ (n := 1) hi1 hx
              obtain ⟨c, hc⟩ : ∃ c, cpTo b 1 i = c := ⟨_, rfl⟩
              rw [hc] at hlt hs ⊢
              have hx8' := x.toNat_lt
              have HS := Lib.hid hs
              have HIN := Lib.hid hin
              have k1 : (i : Int) < 1 := by omega
              have k2 : (i : Int) < (bl : Int) := by have := HNL.out; omega
              clear hx hs hc hin hiN
              go_wp2_with fail
              go_roundw
              case rel => exact ⟨i + 1, by omega, HIN.out, by go_num, by rw [HS.out]; simp, by have h := HBI.out; exact (by repeat (first | (with_reducible exact Below.refl _ _) | (with_reducible exact Below.refl _ _) | (with_reducible refine Below.setCell ?_ (by first | omega | (simp; done) | (simp; omega)) _) | (with_reducible refine Below.alloc ?_ (by first | omega | (simp; done) | (simp; omega)) _) | (with_reducible refine Below.drew ?_) | (with_reducible refine below_drewN ?_ _) | (with_reducible refine Below.trans ?_ (h.mono (by first | omega | (simp; done) | (simp; omega))))))⟩
              case measure => have := HIN.out; simp [intOf]; omega
            · obtain rfl : i = 1 := by omega
              have hlt := cpTo_lt b 1 1 (by omega) (by omega) (by have := HL.out; have := HNL.out; omega)
              obtain ⟨c, hc⟩ : ∃ c, cpAt b 1 = c := ⟨_, rfl⟩
              have hc' : cpTo b 1 1 = c := hc
              rw [hc'] at hlt ⊢
              have HC := Lib.hid hc
              clear hin hi1 hiN hc hc'
              go_wp2_with fail
              refine (Tryd_rIs c wr).mono ?_; rintro e w2 ⟨rfl, hb2⟩
              have HB2 := Lib.hid (HBI.out.trans (hb2.mono HBI.out.size))
              have HOK := Lib.hid (beginOk_cases (b := b) (n := 1) (by have := HL.out; have := HNL.out; omega))
              clear hb2
              cases hic : isCp c with
              | false =>
                have HNOK := Lib.hid (show beginOk b 1 = false by rw [HOK.out, HC.out, hic]; rfl)
                clear hic
                go_wp2_with fail
                go_roundw
                case rel => exact ⟨1 + 1, by omega, by omega, by go_num, HB2.out, fun m hm1 hm2 => by
                  by_cases hmn : m < 1
                  · exact HNO.out m hm1 hmn
                  · obtain rfl : m = 1 := by omega
                    exact HNOK.out⟩
                case measure => simp [intOf]
              | true =>
                have hcl : c ≤ 1114111 := by
                  unfold isCp at hic
                  rw [Bool.and_eq_true, decide_eq_true_eq] at hic
                  exact hic.1
                have HIC := Lib.hid hic
                clear hic
                go_wp2_with fail
                refine (Tryd_rBytes c w2 hcl).mono ?_; rintro e w3 ⟨⟨p, hp, rfl, hob⟩, hb3⟩
                obtain ⟨ol, hol⟩ : ∃ l, cpBytes c = l := ⟨_, rfl⟩
                rw [hol] at hob ⊢
                obtain ⟨on, hon⟩ : ∃ n, ol.length = n := ⟨_, rfl⟩
                rw [hon] at hob ⊢
                have HOB := Lib.hid hob
                have HB3 := Lib.hid (HB2.out.trans (hb3.mono HB2.out.size))
                have HOL := Lib.hid hol
                have HON := Lib.hid hon
                clear hob hb3 hol hon hcl
                by_cases hn : on = 1
                · subst hn
                  go_wp2_with fail
                  have hSt := Tryd_rStarts (some ⟨bb, bo, none⟩) (some ⟨p, 0, none⟩) bl bc 1 1 b ol w3 (HB.out.ext HB3.out) HOB.out
                  with_reducible refine hSt.mono ?_
                  rintro e w4 ⟨rfl, hb4⟩
                  have HB4 := Lib.hid (HB3.out.trans (hb4.mono HB3.out.size))
                  clear hb4
                  cases hst : startsB b ol with
                  | true =>
                    have e : r = (c, 1) := by
                      have h := HOK.out
                      rw [HC.out, HIC.out, HOL.out, HON.out, hst, decide_eq_true rfl] at h
                      rw [← HR.out, ← HC.out]
                      exact beginOf_ok (by omega) (by omega) h HNO.out
                    clear hst HR
                    subst e
                    go_wp2
                    go_ret2
                    exact ⟨rfl, HB4.out⟩
                  | false =>
                    have HNOK := Lib.hid (show beginOk b 1 = false by rw [HOK.out, HC.out, HIC.out, HOL.out, hst]; simp)
                    clear hst
                    go_wp2_with fail
                    go_roundw
                    case rel => exact ⟨1 + 1, by omega, by omega, by go_num, HB4.out, fun m hm1 hm2 => by
                      by_cases hmn : m < 1
                      · exact HNO.out m hm1 hmn
                      · obtain rfl : m = 1 := by omega
                        exact HNOK.out⟩
                    case measure => simp [intOf]
                · have d1 : ((on : Int) == 1) = false := by rw [beq_eq_false_iff_ne]; omega
                  have HNOK := Lib.hid (show beginOk b 1 = false by rw [HOK.out, HC.out, HIC.out, HOL.out, HON.out, decide_eq_false hn]; rfl)
                  clear hn
                  go_wp2_with fail
                  go_roundw
                  case rel => exact ⟨1 + 1, by omega, by omega, by go_num, HB3.out, fun m hm1 hm2 => by
                    by_cases hmn : m < 1
                    · exact HNO.out m hm1 hmn
                    · obtain rfl : m = 1 := by omega
                      exact HNOK.out⟩
                  case measure => simp [intOf]
        ·
          have HCF := Lib.hid (show ((cpFirst b 2 : Nat) : Int) = (x0.toNat : Int) % 32 by obtain ⟨xs, e⟩ := HBC.out; rw [e]; rfl)
          clear hn1 hn5 hn4 hnl
          go_wp2_with fail
          go_region
          go_wp2_with fail
          go_loopw [5, 6] (fun cx ix wi => ∃ i : Nat, 1 ≤ i ∧ i ≤ 2 ∧ ix = .int .i64 (i : Int) ∧ cx = .int .i64 ((cpTo b 2 i : Nat) : Int) ∧ Below w.heap.size w wi) (fun _ ix _ => 2 - (intOf ix).toNat)
          case atStart => exact ⟨1, by omega, by omega, by go_num, by rw [cpTo_one, HCF.out], by have h := HBE.out; have hs := h.size; exact (by repeat (first | (with_reducible exact Below.refl _ _) | (with_reducible exact Below.refl _ _) | (with_reducible refine Below.setCell ?_ (by first | omega | (simp; done) | (simp; omega)) _) | (with_reducible refine Below.alloc ?_ (by first | omega | (simp; done) | (simp; omega)) _) | (with_reducible refine Below.drew ?_) | (with_reducible refine below_drewN ?_ _) | (with_reducible refine Below.trans ?_ (h.mono (by first | omega | (simp; done) | (simp; omega))))))⟩
          case round =>
            obtain ⟨i, hi1, hiN, rfl, rfl, hbi⟩ := hrel
            have HBI := Lib.hid hbi
            clear hbi
            by_cases hin : i < 2
            · obtain ⟨x, hx⟩ : ∃ x, b[i]? = some x := ⟨_, List.getElem?_eq_getElem (by have := HL.out; have := HNL.out; omega)⟩
              obtain ⟨bb2, bo2, e2, hbb2, hbcell2⟩ := (HB.out.ext HBI.out).hat i x hx
              cases e2
              have hlt := cpTo_lt b 2 i hi1 (by omega) (by have := HL.out; have := HNL.out; omega)
              have hs := cpTo_succ (n := 2) hi1 hx
              obtain ⟨c, hc⟩ : ∃ c, cpTo b 2 i = c := ⟨_, rfl⟩
              rw [hc] at hlt hs ⊢
              have hx8' := x.toNat_lt
              have HS := Lib.hid hs
              have HIN := Lib.hid hin
              have k1 : (i : Int) < 2 := by omega
              have k2 : (i : Int) < (bl : Int) := by have := HNL.out; omega
              clear hx hs hc hin hiN
              go_wp2_with fail
              go_roundw
              case rel => exact ⟨i + 1, by omega, HIN.out, by go_num, by rw [HS.out]; simp, by have h := HBI.out; exact (by repeat (first | (with_reducible exact Below.refl _ _) | (with_reducible exact Below.refl _ _) | (with_reducible refine Below.setCell ?_ (by first | omega | (simp; done) | (simp; omega)) _) | (with_reducible refine Below.alloc ?_ (by first | omega | (simp; done) | (simp; omega)) _) | (with_reducible refine Below.drew ?_) | (with_reducible refine below_drewN ?_ _) | (with_reducible refine Below.trans ?_ (h.mono (by first | omega | (simp; done) | (simp; omega))))))⟩
              case measure => have := HIN.out; simp [intOf]; omega
            · obtain rfl : i = 2 := by omega
              have hlt := cpTo_lt b 2 2 (by omega) (by omega) (by have := HL.out; have := HNL.out; omega)
              obtain ⟨c, hc⟩ : ∃ c, cpAt b 2 = c := ⟨_, rfl⟩
              have hc' : cpTo b 2 2 = c := hc
              rw [hc'] at hlt ⊢
              have HC := Lib.hid hc
              clear hin hi1 hiN hc hc'
              go_wp2_with fail
              refine (Tryd_rIs c wr).mono ?_; rintro e w2 ⟨rfl, hb2⟩
              have HB2 := Lib.hid (HBI.out.trans (hb2.mono HBI.out.size))
              have HOK := Lib.hid (beginOk_cases (b := b) (n := 2) (by have := HL.out; have := HNL.out; omega))
              clear hb2
              cases hic : isCp c with
              | false =>
                have HNOK := Lib.hid (show beginOk b 2 = false by rw [HOK.out, HC.out, hic]; rfl)
                clear hic
                go_wp2_with fail
                go_roundw
                case rel => exact ⟨2 + 1, by omega, by omega, by go_num, HB2.out, fun m hm1 hm2 => by
                  by_cases hmn : m < 2
                  · exact HNO.out m hm1 hmn
                  · obtain rfl : m = 2 := by omega
                    exact HNOK.out⟩
                case measure => simp [intOf]
              | true =>
                have hcl : c ≤ 1114111 := by
                  unfold isCp at hic
                  rw [Bool.and_eq_true, decide_eq_true_eq] at hic
                  exact hic.1
                have HIC := Lib.hid hic
                clear hic
                go_wp2_with fail
                refine (Tryd_rBytes c w2 hcl).mono ?_; rintro e w3 ⟨⟨p, hp, rfl, hob⟩, hb3⟩
                obtain ⟨ol, hol⟩ : ∃ l, cpBytes c = l := ⟨_, rfl⟩
                rw [hol] at hob ⊢
                obtain ⟨on, hon⟩ : ∃ n, ol.length = n := ⟨_, rfl⟩
                rw [hon] at hob ⊢
                have HOB := Lib.hid hob
                have HB3 := Lib.hid (HB2.out.trans (hb3.mono HB2.out.size))
                have HOL := Lib.hid hol
                have HON := Lib.hid hon
                clear hob hb3 hol hon hcl
                by_cases hn : on = 2
                · subst hn
                  go_wp2_with fail
                  have hSt := Tryd_rStarts (some ⟨bb, bo, none⟩) (some ⟨p, 0, none⟩) bl bc 2 2 b ol w3 (HB.out.ext HB3.out) HOB.out
                  with_reducible refine hSt.mono ?_
                  rintro e w4 ⟨rfl, hb4⟩
                  have HB4 := Lib.hid (HB3.out.trans (hb4.mono HB3.out.size))
                  clear hb4
                  cases hst : startsB b ol with
                  | true =>
                    have e : r = (c, 2) := by
                      have h := HOK.out
                      rw [HC.out, HIC.out, HOL.out, HON.out, hst, decide_eq_true rfl] at h
                      rw [← HR.out, ← HC.out]
                      exact beginOf_ok (by omega) (by omega) h HNO.out
                    clear hst HR
                    subst e
                    go_wp2
                    go_ret2
                    exact ⟨rfl, HB4.out⟩
                  | false =>
                    have HNOK := Lib.hid (show beginOk b 2 = false by rw [HOK.out, HC.out, HIC.out, HOL.out, hst]; simp)
                    clear hst
                    go_wp2_with fail
                    go_roundw
                    case rel => exact ⟨2 + 1, by omega, by omega, by go_num, HB4.out, fun m hm1 hm2 => by
                      by_cases hmn : m < 2
                      · exact HNO.out m hm1 hmn
                      · obtain rfl : m = 2 := by omega
                        exact HNOK.out⟩
                    case measure => simp [intOf]
                · have d1 : ((on : Int) == 2) = false := by rw [beq_eq_false_iff_ne]; omega
                  have HNOK := Lib.hid (show beginOk b 2 = false by rw [HOK.out, HC.out, HIC.out, HOL.out, HON.out, decide_eq_false hn]; rfl)
                  clear hn
                  go_wp2_with fail
                  go_roundw
                  case rel => exact ⟨2 + 1, by omega, by omega, by go_num, HB3.out, fun m hm1 hm2 => by
                    by_cases hmn : m < 2
                    · exact HNO.out m hm1 hmn
                    · obtain rfl : m = 2 := by omega
                      exact HNOK.out⟩
                  case measure => simp [intOf]
        ·
          have HCF := Lib.hid (show ((cpFirst b 3 : Nat) : Int) = (x0.toNat : Int) % 16 by obtain ⟨xs, e⟩ := HBC.out; rw [e]; rfl)
          clear hn1 hn5 hn4 hnl
          go_wp2_with fail
          go_region
          go_wp2_with fail
          go_loopw [5, 6] (fun cx ix wi => ∃ i : Nat, 1 ≤ i ∧ i ≤ 3 ∧ ix = .int .i64 (i : Int) ∧ cx = .int .i64 ((cpTo b 3 i : Nat) : Int) ∧ Below w.heap.size w wi) (fun _ ix _ => 3 - (intOf ix).toNat)
          case atStart => exact ⟨1, by omega, by omega, by go_num, by rw [cpTo_one, HCF.out], by have h := HBE.out; have hs := h.size; exact (by repeat (first | (with_reducible exact Below.refl _ _) | (with_reducible exact Below.refl _ _) | (with_reducible refine Below.setCell ?_ (by first | omega | (simp; done) | (simp; omega)) _) | (with_reducible refine Below.alloc ?_ (by first | omega | (simp; done) | (simp; omega)) _) | (with_reducible refine Below.drew ?_) | (with_reducible refine below_drewN ?_ _) | (with_reducible refine Below.trans ?_ (h.mono (by first | omega | (simp; done) | (simp; omega))))))⟩
          case round =>
            obtain ⟨i, hi1, hiN, rfl, rfl, hbi⟩ := hrel
            have HBI := Lib.hid hbi
            clear hbi
            by_cases hin : i < 3
            · obtain ⟨x, hx⟩ : ∃ x, b[i]? = some x := ⟨_, List.getElem?_eq_getElem (by have := HL.out; have := HNL.out; omega)⟩
              obtain ⟨bb2, bo2, e2, hbb2, hbcell2⟩ := (HB.out.ext HBI.out).hat i x hx
              cases e2
              have hlt := cpTo_lt b 3 i hi1 (by omega) (by have := HL.out; have := HNL.out; omega)
              have hs := cpTo_succ (n := 3) hi1 hx
              obtain ⟨c, hc⟩ : ∃ c, cpTo b 3 i = c := ⟨_, rfl⟩
              rw [hc] at hlt hs ⊢
              have hx8' := x.toNat_lt
              have HS := Lib.hid hs
              have HIN := Lib.hid hin
              have k1 : (i : Int) < 3 := by omega
              have k2 : (i : Int) < (bl : Int) := by have := HNL.out; omega
              clear hx hs hc hin hiN
              go_wp2_with fail
              go_roundw
              case rel => exact ⟨i + 1, by omega, HIN.out, by go_num, by rw [HS.out]; simp, by have h := HBI.out; exact (by repeat (first | (with_reducible exact Below.refl _ _) | (with_reducible exact Below.refl _ _) | (with_reducible refine Below.setCell ?_ (by first | omega | (simp; done) | (simp; omega)) _) | (with_reducible refine Below.alloc ?_ (by first | omega | (simp; done) | (simp; omega)) _) | (with_reducible refine Below.drew ?_) | (with_reducible refine below_drewN ?_ _) | (with_reducible refine Below.trans ?_ (h.mono (by first | omega | (simp; done) | (simp; omega))))))⟩
              case measure => have := HIN.out; simp [intOf]; omega
            · obtain rfl : i = 3 := by omega
              have hlt := cpTo_lt b 3 3 (by omega) (by omega) (by have := HL.out; have := HNL.out; omega)
              obtain ⟨c, hc⟩ : ∃ c, cpAt b 3 = c := ⟨_, rfl⟩
              have hc' : cpTo b 3 3 = c := hc
              rw [hc'] at hlt ⊢
              have HC := Lib.hid hc
              clear hin hi1 hiN hc hc'
              go_wp2_with fail
              refine (Tryd_rIs c wr).mono ?_; rintro e w2 ⟨rfl, hb2⟩
              have HB2 := Lib.hid (HBI.out.trans (hb2.mono HBI.out.size))
              have HOK := Lib.hid (beginOk_cases (b := b) (n := 3) (by have := HL.out; have := HNL.out; omega))
              clear hb2
              cases hic : isCp c with
              | false =>
                have HNOK := Lib.hid (show beginOk b 3 = false by rw [HOK.out, HC.out, hic]; rfl)
                clear hic
                go_wp2_with fail
                go_roundw
                case rel => exact ⟨3 + 1, by omega, by omega, by go_num, HB2.out, fun m hm1 hm2 => by
                  by_cases hmn : m < 3
                  · exact HNO.out m hm1 hmn
                  · obtain rfl : m = 3 := by omega
                    exact HNOK.out⟩
                case measure => simp [intOf]
              | true =>
                have hcl : c ≤ 1114111 := by
                  unfold isCp at hic
                  rw [Bool.and_eq_true, decide_eq_true_eq] at hic
                  exact hic.1
                have HIC := Lib.hid hic
                clear hic
                go_wp2_with fail
                refine (Tryd_rBytes c w2 hcl).mono ?_; rintro e w3 ⟨⟨p, hp, rfl, hob⟩, hb3⟩
                obtain ⟨ol, hol⟩ : ∃ l, cpBytes c = l := ⟨_, rfl⟩
                rw [hol] at hob ⊢
                obtain ⟨on, hon⟩ : ∃ n, ol.length = n := ⟨_, rfl⟩
                rw [hon] at hob ⊢
                have HOB := Lib.hid hob
                have HB3 := Lib.hid (HB2.out.trans (hb3.mono HB2.out.size))
                have HOL := Lib.hid hol
                have HON := Lib.hid hon
                clear hob hb3 hol hon hcl
                by_cases hn : on = 3
                · subst hn
                  go_wp2_with fail
                  have hSt := Tryd_rStarts (some ⟨bb, bo, none⟩) (some ⟨p, 0, none⟩) bl bc 3 3 b ol w3 (HB.out.ext HB3.out) HOB.out
                  with_reducible refine hSt.mono ?_
                  rintro e w4 ⟨rfl, hb4⟩
                  have HB4 := Lib.hid (HB3.out.trans (hb4.mono HB3.out.size))
                  clear hb4
                  cases hst : startsB b ol with
                  | true =>
                    have e : r = (c, 3) := by
                      have h := HOK.out
                      rw [HC.out, HIC.out, HOL.out, HON.out, hst, decide_eq_true rfl] at h
                      rw [← HR.out, ← HC.out]
                      exact beginOf_ok (by omega) (by omega) h HNO.out
                    clear hst HR
                    subst e
                    go_wp2
                    go_ret2
                    exact ⟨rfl, HB4.out⟩
                  | false =>
                    have HNOK := Lib.hid (show beginOk b 3 = false by rw [HOK.out, HC.out, HIC.out, HOL.out, hst]; simp)
                    clear hst
                    go_wp2_with fail
                    go_roundw
                    case rel => exact ⟨3 + 1, by omega, by omega, by go_num, HB4.out, fun m hm1 hm2 => by
                      by_cases hmn : m < 3
                      · exact HNO.out m hm1 hmn
                      · obtain rfl : m = 3 := by omega
                        exact HNOK.out⟩
                    case measure => simp [intOf]
                · have d1 : ((on : Int) == 3) = false := by rw [beq_eq_false_iff_ne]; omega
                  have HNOK := Lib.hid (show beginOk b 3 = false by rw [HOK.out, HC.out, HIC.out, HOL.out, HON.out, decide_eq_false hn]; rfl)
                  clear hn
                  go_wp2_with fail
                  go_roundw
                  case rel => exact ⟨3 + 1, by omega, by omega, by go_num, HB3.out, fun m hm1 hm2 => by
                    by_cases hmn : m < 3
                    · exact HNO.out m hm1 hmn
                    · obtain rfl : m = 3 := by omega
                      exact HNOK.out⟩
                  case measure => simp [intOf]
        ·
          have HCF := Lib.hid (show ((cpFirst b 4 : Nat) : Int) = (x0.toNat : Int) % 8 by obtain ⟨xs, e⟩ := HBC.out; rw [e]; rfl)
          clear hn1 hn5 hn4 hnl
          go_wp2_with fail
          go_region
          go_wp2_with fail
          go_loopw [5, 6] (fun cx ix wi => ∃ i : Nat, 1 ≤ i ∧ i ≤ 4 ∧ ix = .int .i64 (i : Int) ∧ cx = .int .i64 ((cpTo b 4 i : Nat) : Int) ∧ Below w.heap.size w wi) (fun _ ix _ => 4 - (intOf ix).toNat)
          case atStart => exact ⟨1, by omega, by omega, by go_num, by rw [cpTo_one, HCF.out], by have h := HBE.out; have hs := h.size; exact (by repeat (first | (with_reducible exact Below.refl _ _) | (with_reducible exact Below.refl _ _) | (with_reducible refine Below.setCell ?_ (by first | omega | (simp; done) | (simp; omega)) _) | (with_reducible refine Below.alloc ?_ (by first | omega | (simp; done) | (simp; omega)) _) | (with_reducible refine Below.drew ?_) | (with_reducible refine below_drewN ?_ _) | (with_reducible refine Below.trans ?_ (h.mono (by first | omega | (simp; done) | (simp; omega))))))⟩
          case round =>
            obtain ⟨i, hi1, hiN, rfl, rfl, hbi⟩ := hrel
            have HBI := Lib.hid hbi
            clear hbi
            by_cases hin : i < 4
            · obtain ⟨x, hx⟩ : ∃ x, b[i]? = some x := ⟨_, List.getElem?_eq_getElem (by have := HL.out; have := HNL.out; omega)⟩
              obtain ⟨bb2, bo2, e2, hbb2, hbcell2⟩ := (HB.out.ext HBI.out).hat i x hx
              cases e2
              have hlt := cpTo_lt b 4 i hi1 (by omega) (by have := HL.out; have := HNL.out; omega)
              have hs := cpTo_succ (n := 4) hi1 hx
              obtain ⟨c, hc⟩ : ∃ c, cpTo b 4 i = c := ⟨_, rfl⟩
              rw [hc] at hlt hs ⊢
              have hx8' := x.toNat_lt
              have HS := Lib.hid hs
              have HIN := Lib.hid hin
              have k1 : (i : Int) < 4 := by omega
              have k2 : (i : Int) < (bl : Int) := by have := HNL.out; omega
              clear hx hs hc hin hiN
              go_wp2_with fail
              go_roundw
              case rel => exact ⟨i + 1, by omega, HIN.out, by go_num, by rw [HS.out]; simp, by have h := HBI.out; exact (by repeat (first | (with_reducible exact Below.refl _ _) | (with_reducible exact Below.refl _ _) | (with_reducible refine Below.setCell ?_ (by first | omega | (simp; done) | (simp; omega)) _) | (with_reducible refine Below.alloc ?_ (by first | omega | (simp; done) | (simp; omega)) _) | (with_reducible refine Below.drew ?_) | (with_reducible refine below_drewN ?_ _) | (with_reducible refine Below.trans ?_ (h.mono (by first | omega | (simp; done) | (simp; omega))))))⟩
              case measure => have := HIN.out; simp [intOf]; omega
            · obtain rfl : i = 4 := by omega
              have hlt := cpTo_lt b 4 4 (by omega) (by omega) (by have := HL.out; have := HNL.out; omega)
              obtain ⟨c, hc⟩ : ∃ c, cpAt b 4 = c := ⟨_, rfl⟩
              have hc' : cpTo b 4 4 = c := hc
              rw [hc'] at hlt ⊢
              have HC := Lib.hid hc
              clear hin hi1 hiN hc hc'
              go_wp2_with fail
              refine (Tryd_rIs c wr).mono ?_; rintro e w2 ⟨rfl, hb2⟩
              have HB2 := Lib.hid (HBI.out.trans (hb2.mono HBI.out.size))
              have HOK := Lib.hid (beginOk_cases (b := b) (n := 4) (by have := HL.out; have := HNL.out; omega))
              clear hb2
              cases hic : isCp c with
              | false =>
                have HNOK := Lib.hid (show beginOk b 4 = false by rw [HOK.out, HC.out, hic]; rfl)
                clear hic
                go_wp2_with fail
                go_roundw
                case rel => exact ⟨4 + 1, by omega, by omega, by go_num, HB2.out, fun m hm1 hm2 => by
                  by_cases hmn : m < 4
                  · exact HNO.out m hm1 hmn
                  · obtain rfl : m = 4 := by omega
                    exact HNOK.out⟩
                case measure => simp [intOf]
              | true =>
                have hcl : c ≤ 1114111 := by
                  unfold isCp at hic
                  rw [Bool.and_eq_true, decide_eq_true_eq] at hic
                  exact hic.1
                have HIC := Lib.hid hic
                clear hic
                go_wp2_with fail
                refine (Tryd_rBytes c w2 hcl).mono ?_; rintro e w3 ⟨⟨p, hp, rfl, hob⟩, hb3⟩
                obtain ⟨ol, hol⟩ : ∃ l, cpBytes c = l := ⟨_, rfl⟩
                rw [hol] at hob ⊢
                obtain ⟨on, hon⟩ : ∃ n, ol.length = n := ⟨_, rfl⟩
                rw [hon] at hob ⊢
                have HOB := Lib.hid hob
                have HB3 := Lib.hid (HB2.out.trans (hb3.mono HB2.out.size))
                have HOL := Lib.hid hol
                have HON := Lib.hid hon
                clear hob hb3 hol hon hcl
                by_cases hn : on = 4
                · subst hn
                  go_wp2_with fail
                  have hSt := Tryd_rStarts (some ⟨bb, bo, none⟩) (some ⟨p, 0, none⟩) bl bc 4 4 b ol w3 (HB.out.ext HB3.out) HOB.out
                  with_reducible refine hSt.mono ?_
                  rintro e w4 ⟨rfl, hb4⟩
                  have HB4 := Lib.hid (HB3.out.trans (hb4.mono HB3.out.size))
                  clear hb4
                  cases hst : startsB b ol with
                  | true =>
                    have e : r = (c, 4) := by
                      have h := HOK.out
                      rw [HC.out, HIC.out, HOL.out, HON.out, hst, decide_eq_true rfl] at h
                      rw [← HR.out, ← HC.out]
                      exact beginOf_ok (by omega) (by omega) h HNO.out
                    clear hst HR
                    subst e
                    go_wp2
                    go_ret2
                    exact ⟨rfl, HB4.out⟩
                  | false =>
                    have HNOK := Lib.hid (show beginOk b 4 = false by rw [HOK.out, HC.out, HIC.out, HOL.out, hst]; simp)
                    clear hst
                    go_wp2_with fail
                    go_roundw
                    case rel => exact ⟨4 + 1, by omega, by omega, by go_num, HB4.out, fun m hm1 hm2 => by
                      by_cases hmn : m < 4
                      · exact HNO.out m hm1 hmn
                      · obtain rfl : m = 4 := by omega
                        exact HNOK.out⟩
                    case measure => simp [intOf]
                · have d1 : ((on : Int) == 4) = false := by rw [beq_eq_false_iff_ne]; omega
                  have HNOK := Lib.hid (show beginOk b 4 = false by rw [HOK.out, HC.out, HIC.out, HOL.out, HON.out, decide_eq_false hn]; rfl)
                  clear hn
                  go_wp2_with fail
                  go_roundw
                  case rel => exact ⟨4 + 1, by omega, by omega, by go_num, HB3.out, fun m hm1 hm2 => by
                    by_cases hmn : m < 4
                    · exact HNO.out m hm1 hmn
                    · obtain rfl : m = 4 := by omega
                      exact HNOK.out⟩
                  case measure => simp [intOf]
      · have g1 : (n : Int) ≤ 4 := by omega
        have g2 : ¬ (n : Int) ≤ (bl : Int) := by omega
        have e : r = (0, 0) := by
          rw [← HR.out]; refine beginOf_no fun m hm1 hm4 => ?_
          by_cases hmn : m < n
          · exact HNO.out m hm1 hmn
          · unfold beginOk; rw [decide_eq_false (by have := HL.out; omega)]; rfl
        clear hn4 hnl hn1 hn5
        subst e
        go_wp2
        go_ret2
        exact ⟨rfl, by have h := HBE.out; exact (by repeat (first | (with_reducible exact Below.refl _ _) | (with_reducible exact Below.refl _ _) | (with_reducible refine Below.setCell ?_ (by first | omega | (simp; done) | (simp; omega)) _) | (with_reducible refine Below.alloc ?_ (by first | omega | (simp; done) | (simp; omega)) _) | (with_reducible refine Below.drew ?_) | (with_reducible refine below_drewN ?_ _) | (with_reducible refine Below.trans ?_ (h.mono (by first | omega | (simp; done) | (simp; omega))))))⟩
    · have g1 : ¬ (n : Int) ≤ 4 := by omega
      have e : r = (0, 0) := by
        rw [← HR.out]; exact beginOf_no fun m hm1 hm4 => HNO.out m hm1 (by omega)
      clear hn4 hn1 hn5
      subst e
      go_wp2
      go_ret2
      exact ⟨rfl, by have h := HBE.out; exact (by repeat (first | (with_reducible exact Below.refl _ _) | (with_reducible exact Below.refl _ _) | (with_reducible refine Below.setCell ?_ (by first | omega | (simp; done) | (simp; omega)) _) | (with_reducible refine Below.alloc ?_ (by first | omega | (simp; done) | (simp; omega)) _) | (with_reducible refine Below.drew ?_) | (with_reducible refine below_drewN ?_ _) | (with_reducible refine Below.trans ?_ (h.mono (by first | omega | (simp; done) | (simp; omega))))))⟩
end Go.Proofs.YtmcmknndhppljaaDoor

namespace Go.Dav
set_option linter.unusedVariables false
set_option linter.unusedSimpArgs false
open Go Go.RowKit
def natsV (l : List Nat) : List Value := l.map fun x : Nat => Value.int .i64 ((x : Nat) : Int)
theorem natsV_snoc (l : List Nat) (x : Nat) : natsV (l ++ [x]) = natsV l ++ [.int .i64 (x : Int)] := by simp [natsV]
theorem natsV_len (l : List Nat) : (natsV l).length = l.length := by simp [natsV]
/-- The code points of a row of bytes, how many bytes they take, and whether it is a text. -/
def ptsGo : Nat → List UInt8 → List Nat × Nat × Bool
  | 0, _ => ([], 0, true)
  | k + 1, b => if b = [] then ([], 0, true) else if (beginOf b).2 = 0 then ([], 0, false) else
      ((beginOf b).1 :: (ptsGo k (b.drop (beginOf b).2)).1, (beginOf b).2 + (ptsGo k (b.drop (beginOf b).2)).2.1, (ptsGo k (b.drop (beginOf b).2)).2.2)
def ptsOf (b : List UInt8) : List Nat × Nat × Bool := ptsGo b.length b
/-- Is a string a text? -/
def validB (b : List UInt8) : Bool := (ptsOf b).2.2
theorem beginOk_len {b : List UInt8} {n : Nat} (h : beginOk b n = true) : n ≤ b.length := by
  unfold beginOk at h
  rw [Bool.and_eq_true, decide_eq_true_eq] at h
  exact h.1
theorem beginOf_len (b : List UInt8) : (beginOf b).2 ≤ b.length := by
  unfold beginOf
  by_cases h1 : beginOk b 1 = true
  · rw [if_pos h1]; exact beginOk_len h1
  rw [if_neg h1]
  by_cases h2 : beginOk b 2 = true
  · rw [if_pos h2]; exact beginOk_len h2
  rw [if_neg h2]
  by_cases h3 : beginOk b 3 = true
  · rw [if_pos h3]; exact beginOk_len h3
  rw [if_neg h3]
  by_cases h4 : beginOk b 4 = true
  · rw [if_pos h4]; exact beginOk_len h4
  rw [if_neg h4]; exact Nat.zero_le _
theorem ptsGo_fuel : ∀ (k : Nat) (b : List UInt8), b.length ≤ k → ptsGo k b = ptsGo b.length b
  | 0, b, h => by
    have : b = [] := List.length_eq_zero_iff.1 (by omega)
    subst this; rfl
  | k + 1, b, h => by
    cases hb : b with
    | nil => rfl
    | cons x xs =>
      rw [← hb]
      have hl : b.length = xs.length + 1 := by rw [hb]; rfl
      have hne : b ≠ [] := by rw [hb]; exact List.cons_ne_nil _ _
      rw [hl]
      unfold ptsGo
      rw [if_neg hne, if_neg hne]
      by_cases h0 : (beginOf b).2 = 0
      · rw [if_pos h0, if_pos h0]
      · rw [if_neg h0, if_neg h0]
        have e : (b.drop (beginOf b).2).length ≤ xs.length := by rw [List.length_drop]; omega
        rw [ptsGo_fuel k _ (by omega), ptsGo_fuel xs.length _ e]
theorem ptsOf_nil : ptsOf [] = ([], 0, true) := rfl
theorem ptsOf_no {b : List UInt8} (hne : b ≠ []) (h0 : (beginOf b).2 = 0) : ptsOf b = ([], 0, false) := by
  unfold ptsOf
  cases b with
  | nil => exact absurd rfl hne
  | cons x xs => show ptsGo (xs.length + 1) _ = _; unfold ptsGo; rw [if_neg hne, if_pos h0]
theorem ptsOf_go {b : List UInt8} (hne : b ≠ []) (h0 : (beginOf b).2 ≠ 0) : ptsOf b = ((beginOf b).1 :: (ptsOf (b.drop (beginOf b).2)).1, (beginOf b).2 + (ptsOf (b.drop (beginOf b).2)).2.1, (ptsOf (b.drop (beginOf b).2)).2.2) := by
  have hg : ∀ k, b.length = k + 1 → ptsOf b = ((beginOf b).1 :: (ptsGo k (b.drop (beginOf b).2)).1, (beginOf b).2 + (ptsGo k (b.drop (beginOf b).2)).2.1, (ptsGo k (b.drop (beginOf b).2)).2.2) := fun k hk => by
    unfold ptsOf
    rw [hk]
    show ptsGo (k + 1) b = _
    conv => lhs; unfold ptsGo
    rw [if_neg hne, if_neg h0]
  cases hb : b.length with
  | zero => exact absurd (List.length_eq_zero_iff.1 hb) hne
  | succ k =>
    rw [hg k hb, ptsGo_fuel k _ (by rw [List.length_drop]; omega)]
    rfl
/-- What is known of the points, at a place behind those that were read. -/
def PtsAt (b : List UInt8) (acc : List Nat) (at_ : Nat) : Prop := ptsOf b = (acc ++ (ptsOf (b.drop at_)).1, at_ + (ptsOf (b.drop at_)).2.1, (ptsOf (b.drop at_)).2.2)
theorem PtsAt.zero (b : List UInt8) : PtsAt b [] 0 := by unfold PtsAt; simp
theorem PtsAt.next {b : List UInt8} {acc : List Nat} {at_ : Nat} (h : PtsAt b acc at_) (hl : at_ < b.length) (h0 : (beginOf (b.drop at_)).2 ≠ 0) : PtsAt b (acc ++ [(beginOf (b.drop at_)).1]) (at_ + (beginOf (b.drop at_)).2) := by
  unfold PtsAt at h ⊢
  rw [ptsOf_go (fun e => by have := congrArg List.length e; rw [List.length_drop] at this; simp at this; omega) h0, List.drop_drop] at h
  rw [h]
  simp [Nat.add_assoc]
theorem PtsAt.stop {b : List UInt8} {acc : List Nat} {at_ : Nat} (h : PtsAt b acc at_) (hl : at_ < b.length) (h0 : (beginOf (b.drop at_)).2 = 0) : ptsOf b = (acc, at_, false) := by
  unfold PtsAt at h
  rw [ptsOf_no (fun e => by have := congrArg List.length e; rw [List.length_drop] at this; simp at this; omega) h0] at h
  rw [h]; simp
theorem PtsAt.done {b : List UInt8} {acc : List Nat} (h : PtsAt b acc b.length) : ptsOf b = (acc, b.length, true) := by
  unfold PtsAt at h
  rw [List.drop_length, ptsOf_nil] at h
  rw [h]; simp
/-- What Points hands back. -/
def PtsBack (t : TypeId) (w : World) (b : List UInt8) (e : Ending) (w' : World) : Prop :=
  if validB b = true then ∃ v, e = .returned (.tuple #[v, .int .i64 0, .bool true]) ∧ w'.ownsRow w.heap.size t 1 v (ptsOf b).1.length (natsV (ptsOf b).1) ∧ Below w.heap.size w w'
  else e = .returned (.tuple #[.slice none 0 0, .int .i64 ((ptsOf b).2.1 : Int), .bool false]) ∧ Below w.heap.size w w'
end Go.Dav
namespace Go.Proofs.YtmcmknndhppljaaDoor
set_option linter.unusedVariables false
set_option linter.unusedSimpArgs false
open Go.RowKit Go.Dav
attribute [local go_sem] Gives ite_val ite_val_true

theorem Tryd_infoInt : (Tryd.prog.info? 3).map (fun i => (i.zero, i.size, i.bytes)) = some (some (.int .i64 0), 1, 8) := by kernel_rfl
theorem Tryd_elemInt : Elem1 Tryd.prog 45 3 8 := by
  obtain ⟨i0, hi, hz0, hz1, hz2⟩ := info_parts Tryd_infoInt
  exact ⟨Tryd.underlying45, i0, _, hi, hz0, hz1, hz2, rfl⟩

/-- The bytes of a string, in new memory. -/
theorem Tryd_convBytes (s : ByteArray) (w : World) (hs : s.size ≤ 140737488355328) :
    ∃ c, (convert 9 25 (.string s)).run Tryd.prog w = .ok (.slice (some ⟨w.heap.size, 0, none⟩) s.size c) (Lib.bytesWorld w 5 s) ∧ BytesAt (Lib.bytesWorld w 5 s) (some ⟨w.heap.size, 0, none⟩) s.size c s.data.toList ∧ Below w.heap.size w (Lib.bytesWorld w 5 s) := by
  refine ⟨_, Lib.run_convert_string_bytes w 9 25 5 s Tryd.underlying9 Tryd.underlying25 Tryd.underlying5, ⟨Array.length_toList, grownCap_ge _ _ _ _, grownCap_le_maxLen _ _ _ _ (by unfold maxLen; omega), hs, fun k x hk => ?_, fun e => by cases e⟩, ⟨rfl, rfl, rfl, by rw [Lib.bytesWorld_size]; omega, fun k hk => Lib.bytesWorld_at_old w _ s k hk⟩⟩
  have hkl := (List.getElem?_eq_some_iff.1 hk).1
  refine ⟨w.heap.size, 0, rfl, by rw [Lib.bytesWorld_size]; omega, ?_⟩
  rw [Nat.zero_add, Lib.bytesWorld_cell w _ s k (by rw [Array.length_toList] at hkl; exact hkl)]
  simp [List.getD, hk]

set_option maxRecDepth 8000 in
set_option maxHeartbeats 4000000 in
theorem Tryd_rPoints (ba : Option Addr) (bl bc : Nat) (b : List UInt8) (w : World) (hb : BytesAt w ba bl bc b) (hbl : bl ≤ 17592186044416) :
    Calls Tryd.prog 52 #[.slice ba bl bc] w (PtsBack 3 w b) := by
  have HB := Lib.hid hb
  have HL := Lib.hid hb.hlen
  have hcap := hb.hcap
  clear hb
  go_enter Tryd.func52, Tryd.ntmps52
  go_wp2_with fail
  go_loopw [5, 6] (fun ov ix wr => ∃ (i : Nat) (acc : List Nat), i ≤ bl ∧ acc.length ≤ i ∧ ix = .int .i64 (i : Int) ∧ PtsAt b acc i ∧ wr.ownsRow w.heap.size 3 1 ov acc.length (natsV acc) ∧ Below w.heap.size w wr) (fun _ ix _ => bl - (intOf ix).toNat)
  case atStart => exact ⟨0, [], Nat.zero_le _, Nat.le_refl _, by go_num, PtsAt.zero b, World.ownsRow_nil _ _ _ _, Below.refl _ _⟩
  case round =>
    obtain ⟨i, acc, hi, hac, rfl, hpt, hor, hbel⟩ := hrel
    have HPT := Lib.hid hpt
    have HOR := Lib.hid hor
    have HBE := Lib.hid hbel
    obtain ⟨oa, oc, rfl, _⟩ := own_cells hor
    have hsr := hbel.size
    clear hpt hor hbel
    by_cases hlt : i < bl
    · have g1 : (i : Int) < (bl : Int) := by omega
      obtain ⟨x0, hx0⟩ : ∃ x0, b[i]? = some x0 := ⟨_, List.getElem?_eq_getElem (by have := HL.out; omega)⟩
      obtain ⟨bb, bo, rfl, _, _⟩ := HB.out.hat i x0 hx0
      have g2 : (i : Int) ≤ (bl : Int) := by omega
      have g3 : (bl : Int) ≤ (bc : Int) := by omega
      have HD := Lib.hid (show BytesAt wr (some ⟨bb, bo + i, none⟩) (bl - i) (bc - i) (b.drop i) from by
        have h := HB.out.ext HBE.out
        refine ⟨by rw [List.length_drop, HL.out], by omega, by have := h.hmax; omega, by have := h.hfew; omega, fun k x hk => ?_, fun e => by cases e⟩
        rw [List.getElem?_drop] at hk
        obtain ⟨b', o', e, h1, h2⟩ := h.hat (i + k) x hk
        cases e
        exact ⟨bb, bo + i, rfl, h1, by rw [Nat.add_assoc]; exact h2⟩)
      have HLT := Lib.hid hlt
      clear hx0 hlt hi
      go_wp2_with fail
      refine (Tryd_rBegin (some ⟨bb, bo + i, none⟩) (bl - i) (bc - i) (b.drop i) wr HD.out (by have := HLT.out; omega)).mono ?_; rintro e w1 ⟨rfl, hb1⟩
      have hbn := beginOf_len (b.drop i)
      rw [List.length_drop, HL.out] at hbn
      obtain ⟨n, hn⟩ : ∃ n, (beginOf (b.drop i)).2 = n := ⟨_, rfl⟩
      obtain ⟨c, hc⟩ : ∃ c, (beginOf (b.drop i)).1 = c := ⟨_, rfl⟩
      rw [hn] at hbn ⊢
      rw [hc]
      have HN := Lib.hid hn
      have HC := Lib.hid hc
      have HB1 := Lib.hid (HBE.out.trans (hb1.mono HBE.out.size))
      have HO1 := Lib.hid (ownsRow_ext HOR.out hb1)
      have hs1 := hb1.size
      have hbn' : i + n ≤ bl := by have := HLT.out; omega
      clear hn hc hb1 hbn
      by_cases h0 : n = 0
      · subst h0
        have hst := HPT.out.stop (by rw [HL.out]; exact HLT.out) HN.out
        have HV := Lib.hid hst
        clear hst hbn'
        go_wp2
        refine bodyPost_ret (v := .tuple #[.slice none 0 0, .int .i64 (i : Int), .bool false]) (by simp [results, Tryd.results52, go_sem]) rfl ?_
        unfold PtsBack validB
        rw [HV.out]
        exact ⟨rfl, HB1.out⟩
      · have d1 : ((n : Int) == 0) = false := by rw [beq_eq_false_iff_ne]; omega
        have hnx := HPT.out.next (by rw [HL.out]; exact HLT.out) (by rw [HN.out]; exact h0)
        rw [HN.out, HC.out] at hnx
        have HNX := Lib.hid hnx
        have u1 : IntKind.i64.wrap ((i : Int) + (n : Int)) = (i : Int) + (n : Int) := IntWalk.i64_in _ (by omega)
        have HCX := Lib.hid (cells_one (S := fun b => b = w1.heap.size) (g := w1.heap.size) (v := .int .i64 (c : Int)) rfl (by simp) (Blk.new w1 [.int .i64 (c : Int)] 3 |>.cell 0 rfl))
        have hi0 := HLT.out
        clear hnx
        go_wp2_with (at_builtin; refine wpList_append_rowS rfl (.tmp 23) (.tmp 25) 45 rfl Tryd_elemInt w.heap.size _ acc.length (natsV acc) rfl (HO1.out.alloc _) (fun b => b = w1.heap.size) (some ⟨w1.heap.size, 0, none⟩) 1 1 [.int .i64 (c : Int)] rfl HCX.out (fun u hu => by simp at hu; subst hu; rfl) (fun h => by cases h) (by unfold maxLen; omega) (by omega) (by simp; omega) ?_; intro v7 w7 hown7 hgrow7; have HBL7 := Lib.hid (below_own (HB1.out.alloc (by omega) _) (by simp; omega) (HO1.out.alloc _) (Nat.le_refl _) hgrow7); have HO7 := Lib.hid hown7; clear HCX hown7 hgrow7)
        go_roundw
        case rel =>
          refine ⟨i + n, acc ++ [c], hbn', by rw [List.length_append]; simp; omega, by go_num, HNX.out, ?_, HBL7.out⟩
          rw [List.length_append, natsV_snoc]; exact HO7.out
        case measure => simp [intOf]; omega
    · have g1 : ¬ (i : Int) < (bl : Int) := by omega
      obtain rfl : i = bl := by omega
      have hdn := HPT.out
      rw [← HL.out] at hdn
      have HV := Lib.hid hdn.done
      clear hdn hlt hi
      go_wp2
      refine bodyPost_ret (v := .tuple #[.slice oa acc.length oc, .int .i64 0, .bool true]) (by simp [results, Tryd.results52, go_sem]) rfl ?_
      unfold PtsBack validB
      rw [HV.out]
      exact ⟨_, rfl, HOR.out, HBE.out⟩

theorem Tryd_rValid (s : ByteArray) (w : World) (hs : s.size ≤ 17592186044416) :
    Calls Tryd.prog 20 #[.string s] w fun e w' => e = .returned (.bool (validB s.data.toList)) ∧ Below w.heap.size w w' := by
  obtain ⟨vb, hvb⟩ : ∃ v, validB s.data.toList = v := ⟨_, rfl⟩
  rw [hvb]
  have HVB := Lib.hid hvb
  clear hvb
  obtain ⟨c, hcv, hby, hbw⟩ := Tryd_convBytes s w (by omega)
  have HBY := Lib.hid hby
  have HBW := Lib.hid hbw
  obtain ⟨W1, hW1⟩ : ∃ W1, Lib.bytesWorld w 5 s = W1 := ⟨_, rfl⟩
  rw [hW1] at hcv HBY HBW
  clear hby hbw hW1
  go_enter Tryd.func20, Tryd.ntmps20
  go_wp2_with fail
  refine (Tryd_rPoints _ s.size c s.data.toList W1 HBY.out hs).mono ?_
  intro e w2 hp
  unfold PtsBack at hp
  rw [HVB.out] at hp
  cases vb with
  | true =>
    rw [if_pos rfl] at hp
    obtain ⟨v, rfl, _, hb2⟩ := hp
    have BEL := Lib.hid (HBW.out.trans (hb2.mono HBW.out.size))
    clear hb2
    go_wp2
    go_ret
    exact ⟨rfl, BEL.out⟩
  | false =>
    rw [if_neg (by decide)] at hp
    obtain ⟨rfl, hb2⟩ := hp
    have BEL := Lib.hid (HBW.out.trans (hb2.mono HBW.out.size))
    clear hb2
    go_wp2
    go_ret
    exact ⟨rfl, BEL.out⟩
end Go.Proofs.YtmcmknndhppljaaDoor

namespace Go.Dav
set_option linter.unusedVariables false
set_option linter.unusedSimpArgs false
open Go Go.RowKit
/-- A value whose kids are of K. -/
structure ValF (K : Type) where
  kind : Int
  n : Int
  s : ByteArray
  kids : List K
  keys : List ByteArray
/-- Values of less than so many levels. -/
def ValN : Nat → Type
  | 0 => Unit
  | d + 1 => ValF (ValN d)
def ValN.to {d : Nat} (x : ValN (d + 1)) : ValF (ValN d) := x
/-- Strings, one behind the other. -/
structure StrsAt (W : World) (a : Option Addr) (len cap : Nat) (l : List ByteArray) : Prop where
  hlen : l.length = len
  hcap : len ≤ cap
  hmax : cap ≤ maxLen
  hfew : len ≤ 140737488355328
  hat : ∀ k s, l[k]? = some s → ∃ b o, a = some ⟨b, o, none⟩ ∧ b < W.heap.size ∧ W.cell? ⟨b, o + k, none⟩ = some (.string s)
  hnil : a = none → cap = 0
  hsz : ∀ s ∈ l, s.size ≤ 17592186044416
theorem StrsAt.ext {W W' : World} {a : Option Addr} {len cap : Nat} {l : List ByteArray} (h : StrsAt W a len cap l) (hb : Below W.heap.size W W') : StrsAt W' a len cap l :=
  ⟨h.hlen, h.hcap, h.hmax, h.hfew, fun k x hk => by
    obtain ⟨b, o, h1, h2, h3⟩ := h.hat k x hk
    exact ⟨b, o, h1, Nat.lt_of_lt_of_le h2 hb.size, by rw [hb.cell (p := ⟨b, o + k, none⟩) h2]; exact h3⟩, h.hnil, h.hsz⟩
theorem StrsAt.nil_ {W : World} : StrsAt W none 0 0 [] := ⟨rfl, Nat.le_refl _, by unfold maxLen; omega, by omega, fun k x hk => by simp at hk, fun _ => rfl, fun s h => by simp at h⟩
/-- A value, as it lies. -/
structure ValIs (W : World) {K : Type} (R : Value → K → Prop) (v : Value) (x : ValF K) (ka : Option Addr) (kl kc : Nat) (qa : Option Addr) (ql qc : Nat) : Prop where
  val : v = .agg #[.int .i64 x.kind, .int .i64 x.n, .string x.s, .slice ka kl kc, .slice qa ql qc]
  hk : I64' x.kind
  hn : I64' x.n
  hs : x.s.size ≤ 17592186044416
  hlen : x.kids.length = kl
  hcap : kl ≤ kc
  hmax : kc ≤ maxLen
  hfew : kl ≤ 140737488355328
  hnil : ka = none → kc = 0
  hkid : ∀ i y, x.kids[i]? = some y → ∃ b o u0 u1 u2 u3 u4, ka = some ⟨b, o, none⟩ ∧ b < W.heap.size ∧ W.cell? ⟨b, o + i * 5, none⟩ = some u0 ∧ W.cell? ⟨b, o + i * 5 + 1, none⟩ = some u1 ∧ W.cell? ⟨b, o + i * 5 + 2, none⟩ = some u2 ∧ W.cell? ⟨b, o + i * 5 + 3, none⟩ = some u3 ∧ W.cell? ⟨b, o + i * 5 + 4, none⟩ = some u4 ∧ R (.agg #[u0, u1, u2, u3, u4]) y
  keys : StrsAt W qa ql qc x.keys
def ValAt (W : World) : (d : Nat) → Value → ValN d → Prop
  | 0, _, _ => False
  | d + 1, v, x => ∃ ka kl kc qa ql qc, ValIs W (ValAt W d) v x.to ka kl kc qa ql qc
theorem ValIs.ext {W W' : World} {K : Type} {R R' : Value → K → Prop} {v : Value} {x : ValF K} {ka qa : Option Addr} {kl kc ql qc : Nat} (h : ValIs W R v x ka kl kc qa ql qc) (hb : Below W.heap.size W W') (hR : ∀ v y, R v y → R' v y) : ValIs W' R' v x ka kl kc qa ql qc :=
  ⟨h.val, h.hk, h.hn, h.hs, h.hlen, h.hcap, h.hmax, h.hfew, h.hnil, fun i y hy => by
    obtain ⟨b, o, u0, u1, u2, u3, u4, h1, h2, c0, c1, c2, c3, c4, hv⟩ := h.hkid i y hy
    have hc := fun j => hb.cell (p := ⟨b, j, none⟩) h2
    exact ⟨b, o, u0, u1, u2, u3, u4, h1, Nat.lt_of_lt_of_le h2 hb.size, (hc _).trans c0, (hc _).trans c1, (hc _).trans c2, (hc _).trans c3, (hc _).trans c4, hR _ _ hv⟩, h.keys.ext hb⟩
theorem ValAt.ext {W W' : World} (hb : Below W.heap.size W W') : ∀ (d : Nat) {v : Value} {x : ValN d}, ValAt W d v x → ValAt W' d v x
  | 0, _, _, h => h
  | d + 1, _, _, ⟨ka, kl, kc, qa, ql, qc, h⟩ => ⟨ka, kl, kc, qa, ql, qc, h.ext hb fun _ _ => ValAt.ext hb d⟩
/-- Do these keys rise, up to the i-th? -/
def keysTo (l : List ByteArray) (i : Nat) : Bool := (List.range i).all fun j => validB (l.getD j default).data.toList && (decide (j = 0) || Op.bytesLess (l.getD (j - 1) default).toList (l.getD j default).toList)
theorem keysTo_zero (l : List ByteArray) : keysTo l 0 = true := rfl
theorem keysTo_succ (l : List ByteArray) (i : Nat) : keysTo l (i + 1) = (keysTo l i && (validB (l.getD i default).data.toList && (decide (i = 0) || Op.bytesLess (l.getD (i - 1) default).toList (l.getD i default).toList))) := by
  unfold keysTo; rw [List.range_succ, List.all_append]; simp
theorem keysTo_mono {l : List ByteArray} {i j : Nat} (h : keysTo l j = true) (hij : i ≤ j) : keysTo l i = true := by
  unfold keysTo at *
  rw [List.all_eq_true] at *
  intro k hk
  exact h k (by simp at *; omega)
def strEmpty (s : ByteArray) : Bool := s.toList == []
/-- Is a value one of its kind, whatever its kids are? -/
def aloneB {K : Type} (x : ValF K) : Bool :=
  keysTo x.keys x.keys.length &&
  (if x.kind = 1 then decide (x.n = 0) && (strEmpty x.s && (decide (x.kids.length = 0) && decide (x.keys.length = 0)))
   else if x.kind = 2 then (decide (x.n = 0) || decide (x.n = 1)) && (strEmpty x.s && (decide (x.kids.length = 0) && decide (x.keys.length = 0)))
   else if x.kind = 3 then strEmpty x.s && (decide (x.kids.length = 0) && decide (x.keys.length = 0))
   else if x.kind = 4 then decide (x.n = 0) && (validB x.s.data.toList && (decide (x.kids.length = 0) && decide (x.keys.length = 0)))
   else if x.kind = 5 then decide (x.n = 0) && (strEmpty x.s && decide (x.keys.length = 0))
   else if x.kind = 6 then decide (x.n = 0) && (strEmpty x.s && decide (x.kids.length = x.keys.length))
   else false)
/-- .. over some kids, one behind the other. -/
def withinL {K : Type} (f : K → Nat → Int → Nat) (L : Nat) (m : Int) : List K → Nat → Nat
  | [], n => n
  | y :: ys, n => if f y L (m - n) = 0 then 0 else withinL f L m ys (n + f y L (m - n))
/-- How many nodes a value has, if it is right within so many levels and nodes; 0: it is not. -/
def withinV : (d : Nat) → ValN d → Nat → Int → Nat
  | 0, _, _, _ => 0
  | d + 1, x, L, m => if m < 1 ∨ aloneB x.to = false ∨ (5 ≤ x.to.kind ∧ L = 0) then 0 else withinL (withinV d) (L - 1) m x.to.kids 1
/-- Is a value, and all that is within it, one of its kind? -/
def goodV : (d : Nat) → ValN d → Bool
  | 0, _ => false
  | d + 1, x => aloneB x.to && x.to.kids.all (goodV d)
def oneL {K J : Type} (f : K → J → Bool) (k : Int) : List K → List J → List ByteArray → List ByteArray → Bool
  | x :: xs, y :: ys, ks, js => ((!decide (k = 6)) || (ks.headD default).toList == (js.headD default).toList) && (f x y && oneL f k xs ys ks.tail js.tail)
  | _, _, _, _ => true
/-- Are two right values one? -/
def oneV : (d e : Nat) → ValN d → ValN e → Bool
  | d + 1, e + 1, x, y => decide (x.to.kind = y.to.kind) && (decide (x.to.n = y.to.n) && (x.to.s.toList == y.to.s.toList && (decide (x.to.kids.length = y.to.kids.length) && oneL (oneV d e) x.to.kind x.to.kids y.to.kids x.to.keys y.to.keys)))
  | 0, _, _, _ => false
  | _ + 1, 0, _, _ => false
def rightV (d : Nat) (x : ValN d) : Bool := decide (0 < withinV d x 8 256)
def zeroF {K : Type} (x : ValF K) : Bool := decide (x.kind = 0) && (decide (x.n = 0) && (strEmpty x.s && (decide (x.kids.length = 0) && decide (x.keys.length = 0))))
def sameV (d e : Nat) (x : ValN d) (y : ValN e) : Bool := rightV d x && (rightV e y && oneV d e x y)
end Go.Dav

namespace Go.Proofs.YtmcmknndhppljaaDoor
set_option linter.unusedVariables false
set_option linter.unusedSimpArgs false
open Go.RowKit Go.Dav
attribute [local go_sem] Gives ite_val ite_val_true

theorem Tryd_rZero {K : Type} (R : Value → K → Prop) (x : ValF K) (v : Value) (ka qa : Option Addr) (kl kc ql qc : Nat) (w : World) (h : ValIs w R v x ka kl kc qa ql qc) :
    Calls Tryd.prog 21 #[v] w fun e w' => e = .returned (.bool (zeroF x)) ∧ Below w.heap.size w w' := by
  obtain ⟨kind, n, s, kids, keys⟩ := x
  have hv := h.val
  have hkl := h.hlen
  have hql := h.keys.hlen
  dsimp only at hv hkl hql
  subst hv
  obtain ⟨r, hr⟩ : ∃ r, zeroF (⟨kind, n, s, kids, keys⟩ : ValF K) = r := ⟨_, rfl⟩
  rw [hr]
  unfold zeroF strEmpty at hr
  dsimp only at hr
  rw [hkl, hql] at hr
  have HR := Lib.hid hr
  clear hr h hkl hql
  go_enter Tryd.func21, Tryd.ntmps21
  go_wp2
  all_goals
    go_ret
    refine ⟨?_, (by repeat (first | (with_reducible exact Below.refl _ _) | (with_reducible exact Below.refl _ _) | (with_reducible refine Below.setCell ?_ (by first | omega | (simp; done) | (simp; omega)) _) | (with_reducible refine Below.alloc ?_ (by first | omega | (simp; done) | (simp; omega)) _) | (with_reducible refine Below.drew ?_) | (with_reducible refine below_drewN ?_ _)))⟩
    rw [← HR.out]
    simp [*] <;> (rw [Bool.eq_iff_iff]; simp)

set_option maxRecDepth 8000 in
set_option maxHeartbeats 8000000 in
theorem Tryd_rAlone {K : Type} (R : Value → K → Prop) (x : ValF K) (v : Value) (ka qa : Option Addr) (kl kc ql qc : Nat) (w : World) (h : ValIs w R v x ka kl kc qa ql qc) :
    Calls Tryd.prog 78 #[v] w fun e w' => e = .returned (.bool (aloneB x)) ∧ Below w.heap.size w w' := by
  obtain ⟨kind, n, s, kids, keys⟩ := x
  have hv := h.val
  have hkl := h.hlen
  have hK := h.keys
  have hs := h.hs
  have hql := hK.hlen
  dsimp only at hv hkl hql hK hs
  subst hv
  have hkf := h.hfew
  have hqf := hK.hfew
  obtain ⟨r, hr⟩ : ∃ r, aloneB (⟨kind, n, s, kids, keys⟩ : ValF K) = r := ⟨_, rfl⟩
  rw [hr]
  unfold aloneB strEmpty at hr
  dsimp only at hr
  rw [hkl, hql] at hr
  have HR := Lib.hid hr
  obtain ⟨W0, hW0⟩ : ∃ W0, w.alloc (.cells #[.int .i64 kind, .int .i64 n, .string s, .slice ka kl kc, .slice qa ql qc] 39) = W0 := ⟨_, rfl⟩
  have bel0 : Below w.heap.size w W0 := by rw [← hW0]; exact (by repeat (first | (with_reducible exact Below.refl _ _) | (with_reducible exact Below.refl _ _) | (with_reducible refine Below.setCell ?_ (by first | omega | (simp; done) | (simp; omega)) _) | (with_reducible refine Below.alloc ?_ (by first | omega | (simp; done) | (simp; omega)) _) | (with_reducible refine Below.drew ?_) | (with_reducible refine below_drewN ?_ _)))
  have HB0 := Lib.hid (show Blk W0 w.heap.size [.int .i64 kind, .int .i64 n, .string s, .slice ka kl kc, .slice qa ql qc] 39 by rw [← hW0]; exact Blk.new _ _ _)
  have HKS := Lib.hid (hK.ext bel0)
  have BEL0 := Lib.hid bel0
  have HW0 := Lib.hid hW0
  have HQL := Lib.hid hql
  have HS := Lib.hid hs
  clear hr h hkl hql hK bel0 hW0 hs
  go_enter Tryd.func78, Tryd.ntmps78
  go_wp2_with fail
  rw [HW0.out]
  go_loopw [3] (fun ix wr => ∃ i : Nat, i ≤ ql ∧ ix = .int .i64 (i : Int) ∧ keysTo keys i = true ∧ Below W0.heap.size W0 wr) (fun ix _ => ql - (intOf ix).toNat)
  case atStart => exact ⟨0, Nat.zero_le _, by go_num, rfl, Below.refl _ _⟩
  case round =>
    obtain ⟨i, hi, rfl, hkt, hbr⟩ := hrel
    have HBr := Lib.hid (HB0.out.ext hbr)
    have HBL := Lib.hid hbr
    have HKT := Lib.hid hkt
    have q1 := HBr.out.cells
    have l1 := HBr.out.lt
    clear hbr hkt
    by_cases hlt : i < ql
    · have g1 : (i : Int) < (ql : Int) := by omega
      obtain ⟨u, hu⟩ : ∃ u, keys[i]? = some u := ⟨_, List.getElem?_eq_getElem (by have := HQL.out; omega)⟩
      obtain ⟨b, o, rfl, hb, hcell⟩ := (HKS.out.ext HBL.out).hat i u hu
      have hsz := HKS.out.hsz u (List.mem_of_getElem? hu)
      have hgd : keys.getD i default = u := by rw [List.getD, hu]; rfl
      have hsucc := keysTo_succ keys i
      rw [hgd, HKT.out, Bool.true_and] at hsucc
      have HSU := Lib.hid hsucc
      have HSZ := Lib.hid hsz
      have HLT := Lib.hid hlt
      clear hgd hsucc hsz hlt hi
      cases hvu : validB u.data.toList with
      | false =>
        have HV := Lib.hid hvu
        clear hvu hu
        go_wp2_with fail
        refine' wp_region_seq [(Sum.inl _ : Piece), (Sum.inl _ : Piece), (Sum.inl _ : Piece), (Sum.inl _ : Piece), (Sum.inl _ : Piece), (Sum.inl _ : Piece), (Sum.inl _ : Piece), (Sum.inl _ : Piece), (Sum.inl undef : Piece), (Sum.inl undef : Piece), (Sum.inl undef : Piece), (Sum.inl undef : Piece), (Sum.inl undef : Piece), (Sum.inl undef : Piece), (Sum.inl undef : Piece), (Sum.inl undef : Piece), (Sum.inl undef : Piece), (Sum.inl undef : Piece), (Sum.inl undef : Piece), (Sum.inl undef : Piece), (Sum.inl undef : Piece), (Sum.inl undef : Piece), (Sum.inl undef : Piece), (Sum.inl undef : Piece), (Sum.inl _ : Piece)] (by kernel_rfl) (by kernel_rfl) ?main1
        case main1 =>
          refine wpParts_det (by rfl) (fun W hE hN => ?_) ?_
          · go_simp; refine ⟨Below.refl _ _, ?_⟩; rfl
          simp only [Act.put, List.setIfInBounds_toArray, List.set_cons_zero, List.set_cons_succ]
          refine wpParts_det (by rfl) (fun W hE hN => ?_) ?_
          · have hc := fun b o h => hE.cell (p := ⟨b, o, none⟩) h
            go_simp; refine ⟨Below.refl _ _, ?_⟩; rfl
          simp only [Act.put, List.setIfInBounds_toArray, List.set_cons_zero, List.set_cons_succ]
          refine wpParts_det (by rfl) (fun W hE hN => ?_) ?_
          · go_simp; refine ⟨Below.refl _ _, ?_⟩; rfl
          simp only [Act.put, List.setIfInBounds_toArray, List.set_cons_zero, List.set_cons_succ]
          refine wpParts_det (by rfl) (fun W hE hN => ?_) ?_
          · go_simp; refine ⟨Below.refl _ _, ?_⟩; rfl
          simp only [Act.put, List.setIfInBounds_toArray, List.set_cons_zero, List.set_cons_succ]
          refine wpParts_det (by rfl) (fun W hE hN => ?_) ?_
          · have hc := fun b o h => hE.cell (p := ⟨b, o, none⟩) h
            go_simp; refine ⟨Below.refl _ _, ?_⟩; rfl
          simp only [Act.put, List.setIfInBounds_toArray, List.set_cons_zero, List.set_cons_succ]
          refine wpParts_det (by rfl) (fun W hE hN => ?_) ?_
          · go_simp; refine ⟨Below.refl _ _, ?_⟩; refine (Tryd_rValid u W HSZ.out).mono ?_; rintro e w' ⟨rfl, hb⟩; rw [HV.out]; refine ⟨?_, hb⟩; rfl
          simp only [Act.put, List.setIfInBounds_toArray, List.set_cons_zero, List.set_cons_succ]
          refine wpParts_det (by rfl) (fun W hE hN => ?_) ?_
          · go_simp; refine ⟨Below.refl _ _, ?_⟩; rfl
          simp only [Act.put, List.setIfInBounds_toArray, List.set_cons_zero, List.set_cons_succ]
          refine wpParts_det (by rfl) (fun W hE hN => ?_) ?_
          · go_simp; refine ⟨Below.refl _ _, ?_⟩; rfl
          simp only [Act.put, List.setIfInBounds_toArray, List.set_cons_zero, List.set_cons_succ]
          refine wpParts_skip ?_ ?_
          · rfl
          simp only [Act.put, List.setIfInBounds_toArray, List.set_cons_zero, List.set_cons_succ]
          refine wpParts_skip ?_ ?_
          · rfl
          simp only [Act.put, List.setIfInBounds_toArray, List.set_cons_zero, List.set_cons_succ]
          refine wpParts_skip ?_ ?_
          · rfl
          simp only [Act.put, List.setIfInBounds_toArray, List.set_cons_zero, List.set_cons_succ]
          refine wpParts_skip ?_ ?_
          · rfl
          simp only [Act.put, List.setIfInBounds_toArray, List.set_cons_zero, List.set_cons_succ]
          refine wpParts_skip ?_ ?_
          · rfl
          simp only [Act.put, List.setIfInBounds_toArray, List.set_cons_zero, List.set_cons_succ]
          refine wpParts_skip ?_ ?_
          · rfl
          simp only [Act.put, List.setIfInBounds_toArray, List.set_cons_zero, List.set_cons_succ]
          refine wpParts_skip ?_ ?_
          · rfl
          simp only [Act.put, List.setIfInBounds_toArray, List.set_cons_zero, List.set_cons_succ]
          refine wpParts_skip ?_ ?_
          · rfl
          simp only [Act.put, List.setIfInBounds_toArray, List.set_cons_zero, List.set_cons_succ]
          refine wpParts_skip ?_ ?_
          · rfl
          simp only [Act.put, List.setIfInBounds_toArray, List.set_cons_zero, List.set_cons_succ]
          refine wpParts_skip ?_ ?_
          · rfl
          simp only [Act.put, List.setIfInBounds_toArray, List.set_cons_zero, List.set_cons_succ]
          refine wpParts_skip ?_ ?_
          · rfl
          simp only [Act.put, List.setIfInBounds_toArray, List.set_cons_zero, List.set_cons_succ]
          refine wpParts_skip ?_ ?_
          · rfl
          simp only [Act.put, List.setIfInBounds_toArray, List.set_cons_zero, List.set_cons_succ]
          refine wpParts_skip ?_ ?_
          · rfl
          simp only [Act.put, List.setIfInBounds_toArray, List.set_cons_zero, List.set_cons_succ]
          refine wpParts_skip ?_ ?_
          · rfl
          simp only [Act.put, List.setIfInBounds_toArray, List.set_cons_zero, List.set_cons_succ]
          refine wpParts_skip ?_ ?_
          · rfl
          simp only [Act.put, List.setIfInBounds_toArray, List.set_cons_zero, List.set_cons_succ]
          refine wpParts_skip ?_ ?_
          · rfl
          simp only [Act.put, List.setIfInBounds_toArray, List.set_cons_zero, List.set_cons_succ]
          refine wpParts_det (by rfl) (fun W hE hN => ?_) ?_
          · go_simp; refine ⟨Below.refl _ _, ?_⟩; rfl
          simp only [Act.put, List.setIfInBounds_toArray, List.set_cons_zero, List.set_cons_succ]
          refine wpParts_end fun W2 hE2 hG2 => ?_
          have hcW2 := fun b o h => hE2.cell (p := ⟨b, o, none⟩) h
          have hfW2 := fun b o h => hE2.frozen (p := ⟨b, o, none⟩) h
          have e : r = false := by
            rw [← HR.out]
            have h1 : keysTo keys ql = false := by
              cases hkq : keysTo keys ql with
              | false => rfl
              | true =>
                have h2 := keysTo_mono hkq (show i + 1 ≤ ql from HLT.out)
                rw [HSU.out, HV.out] at h2
                cases h2
            rw [h1, Bool.false_and]
          subst e
          have BEL := Lib.hid (BEL0.out.trans ((HBL.out.trans (hE2.mono HBL.out.size)).mono BEL0.out.size))
          clear hE2 hcW2 hfW2 q1 l1
          go_wp2
          go_ret
          exact ⟨rfl, BEL.out⟩
      | true =>
        have HV := Lib.hid hvu
        clear hvu
        cases i with
        | zero =>
          have hk1 := Lib.hid (show keysTo keys 1 = true by rw [HSU.out, HV.out]; rfl)
          rw [Nat.add_zero] at hcell
          have g0 : 0 < ql := HLT.out
          clear hu
          go_wp2_with fail
          refine' wp_region_seq [(Sum.inl _ : Piece), (Sum.inl _ : Piece), (Sum.inl _ : Piece), (Sum.inl _ : Piece), (Sum.inl _ : Piece), (Sum.inl _ : Piece), (Sum.inl _ : Piece), (Sum.inl _ : Piece), (Sum.inl _ : Piece), (Sum.inl _ : Piece), (Sum.inl _ : Piece), (Sum.inl undef : Piece), (Sum.inl undef : Piece), (Sum.inl undef : Piece), (Sum.inl undef : Piece), (Sum.inl undef : Piece), (Sum.inl undef : Piece), (Sum.inl undef : Piece), (Sum.inl undef : Piece), (Sum.inl undef : Piece), (Sum.inl undef : Piece), (Sum.inl undef : Piece), (Sum.inl undef : Piece), (Sum.inl _ : Piece), (Sum.inl _ : Piece)] (by kernel_rfl) (by kernel_rfl) ?main2
          case main2 =>
            refine wpParts_det (by rfl) (fun W hE hN => ?_) ?_
            · go_simp; refine ⟨Below.refl _ _, ?_⟩; rfl
            simp only [Act.put, List.setIfInBounds_toArray, List.set_cons_zero, List.set_cons_succ]
            refine wpParts_det (by rfl) (fun W hE hN => ?_) ?_
            · have hc := fun b o h => hE.cell (p := ⟨b, o, none⟩) h
              go_simp; refine ⟨Below.refl _ _, ?_⟩; rfl
            simp only [Act.put, List.setIfInBounds_toArray, List.set_cons_zero, List.set_cons_succ]
            refine wpParts_det (by rfl) (fun W hE hN => ?_) ?_
            · go_simp; refine ⟨Below.refl _ _, ?_⟩; rfl
            simp only [Act.put, List.setIfInBounds_toArray, List.set_cons_zero, List.set_cons_succ]
            refine wpParts_det (by rfl) (fun W hE hN => ?_) ?_
            · go_simp; refine ⟨Below.refl _ _, ?_⟩; rfl
            simp only [Act.put, List.setIfInBounds_toArray, List.set_cons_zero, List.set_cons_succ]
            refine wpParts_det (by rfl) (fun W hE hN => ?_) ?_
            · have hc := fun b o h => hE.cell (p := ⟨b, o, none⟩) h
              go_simp; refine ⟨Below.refl _ _, ?_⟩; rfl
            simp only [Act.put, List.setIfInBounds_toArray, List.set_cons_zero, List.set_cons_succ]
            refine wpParts_det (by rfl) (fun W hE hN => ?_) ?_
            · go_simp; refine ⟨Below.refl _ _, ?_⟩; refine (Tryd_rValid u W HSZ.out).mono ?_; rintro e w' ⟨rfl, hb⟩; rw [HV.out]; refine ⟨?_, hb⟩; rfl
            simp only [Act.put, List.setIfInBounds_toArray, List.set_cons_zero, List.set_cons_succ]
            refine wpParts_det (by rfl) (fun W hE hN => ?_) ?_
            · go_simp; refine ⟨Below.refl _ _, ?_⟩; rfl
            simp only [Act.put, List.setIfInBounds_toArray, List.set_cons_zero, List.set_cons_succ]
            refine wpParts_det (by rfl) (fun W hE hN => ?_) ?_
            · go_simp; refine ⟨Below.refl _ _, ?_⟩; rfl
            simp only [Act.put, List.setIfInBounds_toArray, List.set_cons_zero, List.set_cons_succ]
            refine wpParts_det (by rfl) (fun W hE hN => ?_) ?_
            · go_simp; refine ⟨Below.refl _ _, ?_⟩; rfl
            simp only [Act.put, List.setIfInBounds_toArray, List.set_cons_zero, List.set_cons_succ]
            refine wpParts_det (by rfl) (fun W hE hN => ?_) ?_
            · go_simp; refine ⟨Below.refl _ _, ?_⟩; rfl
            simp only [Act.put, List.setIfInBounds_toArray, List.set_cons_zero, List.set_cons_succ]
            refine wpParts_det (by rfl) (fun W hE hN => ?_) ?_
            · go_simp; refine ⟨Below.refl _ _, ?_⟩; rfl
            simp only [Act.put, List.setIfInBounds_toArray, List.set_cons_zero, List.set_cons_succ]
            refine wpParts_skip ?_ ?_
            · rfl
            simp only [Act.put, List.setIfInBounds_toArray, List.set_cons_zero, List.set_cons_succ]
            refine wpParts_skip ?_ ?_
            · rfl
            simp only [Act.put, List.setIfInBounds_toArray, List.set_cons_zero, List.set_cons_succ]
            refine wpParts_skip ?_ ?_
            · rfl
            simp only [Act.put, List.setIfInBounds_toArray, List.set_cons_zero, List.set_cons_succ]
            refine wpParts_skip ?_ ?_
            · rfl
            simp only [Act.put, List.setIfInBounds_toArray, List.set_cons_zero, List.set_cons_succ]
            refine wpParts_skip ?_ ?_
            · rfl
            simp only [Act.put, List.setIfInBounds_toArray, List.set_cons_zero, List.set_cons_succ]
            refine wpParts_skip ?_ ?_
            · rfl
            simp only [Act.put, List.setIfInBounds_toArray, List.set_cons_zero, List.set_cons_succ]
            refine wpParts_skip ?_ ?_
            · rfl
            simp only [Act.put, List.setIfInBounds_toArray, List.set_cons_zero, List.set_cons_succ]
            refine wpParts_skip ?_ ?_
            · rfl
            simp only [Act.put, List.setIfInBounds_toArray, List.set_cons_zero, List.set_cons_succ]
            refine wpParts_skip ?_ ?_
            · rfl
            simp only [Act.put, List.setIfInBounds_toArray, List.set_cons_zero, List.set_cons_succ]
            refine wpParts_skip ?_ ?_
            · rfl
            simp only [Act.put, List.setIfInBounds_toArray, List.set_cons_zero, List.set_cons_succ]
            refine wpParts_skip ?_ ?_
            · rfl
            simp only [Act.put, List.setIfInBounds_toArray, List.set_cons_zero, List.set_cons_succ]
            refine wpParts_skip ?_ ?_
            · rfl
            simp only [Act.put, List.setIfInBounds_toArray, List.set_cons_zero, List.set_cons_succ]
            refine wpParts_det (by rfl) (fun W hE hN => ?_) ?_
            · go_simp; refine ⟨Below.refl _ _, ?_⟩; rfl
            simp only [Act.put, List.setIfInBounds_toArray, List.set_cons_zero, List.set_cons_succ]
            refine wpParts_det (by rfl) (fun W hE hN => ?_) ?_
            · go_simp; refine ⟨Below.refl _ _, ?_⟩; rfl
            simp only [Act.put, List.setIfInBounds_toArray, List.set_cons_zero, List.set_cons_succ]
            refine wpParts_end fun W2 hE2 hG2 => ?_
            have hcW2 := fun b o h => hE2.cell (p := ⟨b, o, none⟩) h
            have hfW2 := fun b o h => hE2.frozen (p := ⟨b, o, none⟩) h
            have BEL := Lib.hid (HBL.out.trans (hE2.mono HBL.out.size))
            clear hE2 hcW2 hfW2 q1 l1
            go_wp2_with fail
            go_roundw
            case rel => exact ⟨1, HLT.out, by go_num, hk1.out, BEL.out⟩
            case measure => have := HLT.out; simp [intOf]; omega
        | succ j =>
          obtain ⟨u', hu'⟩ : ∃ u, keys[j]? = some u := ⟨_, List.getElem?_eq_getElem (by have := HQL.out; have := HLT.out; omega)⟩
          obtain ⟨b', o', e', _, hcell'⟩ := (HKS.out.ext HBL.out).hat j u' hu'
          cases e'
          have hgd' : keys.getD j default = u' := by rw [List.getD, hu']; rfl
          have g2 : (j : Int) < (ql : Int) := by omega
          have u1 : IntKind.i64.wrap (j : Int) = (j : Int) := IntWalk.i64_in _ (by omega)
          obtain ⟨le, hle⟩ : ∃ le, Op.bytesLess u'.toList u.toList = le := ⟨_, rfl⟩
          have hsu := HSU.out
          rw [HV.out, Nat.add_sub_cancel, hgd', hle] at hsu
          simp only [Bool.true_and, Nat.add_eq_zero_iff, Nat.succ_ne_zero, and_false, decide_false, Bool.false_or] at hsu
          have HSU2 := Lib.hid hsu
          have HLE := Lib.hid hle
          clear hu hu' hgd' hsu
          cases le with
          | true =>
            go_wp2_with fail
            refine' wp_region_seq [(Sum.inl _ : Piece), (Sum.inl _ : Piece), (Sum.inl _ : Piece), (Sum.inl _ : Piece), (Sum.inl _ : Piece), (Sum.inl _ : Piece), (Sum.inl _ : Piece), (Sum.inl _ : Piece), (Sum.inl _ : Piece), (Sum.inl _ : Piece), (Sum.inl _ : Piece), (Sum.inl _ : Piece), (Sum.inl _ : Piece), (Sum.inl _ : Piece), (Sum.inl _ : Piece), (Sum.inl _ : Piece), (Sum.inl _ : Piece), (Sum.inl _ : Piece), (Sum.inl _ : Piece), (Sum.inl _ : Piece), (Sum.inl _ : Piece), (Sum.inl _ : Piece), (Sum.inl _ : Piece), (Sum.inl _ : Piece), (Sum.inl _ : Piece)] (by kernel_rfl) (by kernel_rfl) ?main3
            case main3 =>
              refine wpParts_det (by rfl) (fun W hE hN => ?_) ?_
              · go_simp; refine ⟨Below.refl _ _, ?_⟩; rfl
              simp only [Act.put, List.setIfInBounds_toArray, List.set_cons_zero, List.set_cons_succ]
              refine wpParts_det (by rfl) (fun W hE hN => ?_) ?_
              · have hc := fun b o h => hE.cell (p := ⟨b, o, none⟩) h
                go_simp; refine ⟨Below.refl _ _, ?_⟩; rfl
              simp only [Act.put, List.setIfInBounds_toArray, List.set_cons_zero, List.set_cons_succ]
              refine wpParts_det (by rfl) (fun W hE hN => ?_) ?_
              · go_simp; refine ⟨Below.refl _ _, ?_⟩; rfl
              simp only [Act.put, List.setIfInBounds_toArray, List.set_cons_zero, List.set_cons_succ]
              refine wpParts_det (by rfl) (fun W hE hN => ?_) ?_
              · go_simp; refine ⟨Below.refl _ _, ?_⟩; rfl
              simp only [Act.put, List.setIfInBounds_toArray, List.set_cons_zero, List.set_cons_succ]
              refine wpParts_det (by rfl) (fun W hE hN => ?_) ?_
              · have hc := fun b o h => hE.cell (p := ⟨b, o, none⟩) h
                go_simp; refine ⟨Below.refl _ _, ?_⟩; rfl
              simp only [Act.put, List.setIfInBounds_toArray, List.set_cons_zero, List.set_cons_succ]
              refine wpParts_det (by rfl) (fun W hE hN => ?_) ?_
              · go_simp; refine ⟨Below.refl _ _, ?_⟩; refine (Tryd_rValid u W HSZ.out).mono ?_; rintro e w' ⟨rfl, hb⟩; rw [HV.out]; refine ⟨?_, hb⟩; rfl
              simp only [Act.put, List.setIfInBounds_toArray, List.set_cons_zero, List.set_cons_succ]
              refine wpParts_det (by rfl) (fun W hE hN => ?_) ?_
              · go_simp; refine ⟨Below.refl _ _, ?_⟩; rfl
              simp only [Act.put, List.setIfInBounds_toArray, List.set_cons_zero, List.set_cons_succ]
              refine wpParts_det (by rfl) (fun W hE hN => ?_) ?_
              · go_simp; refine ⟨Below.refl _ _, ?_⟩; rfl
              simp only [Act.put, List.setIfInBounds_toArray, List.set_cons_zero, List.set_cons_succ]
              refine wpParts_det (by rfl) (fun W hE hN => ?_) ?_
              · go_simp; refine ⟨Below.refl _ _, ?_⟩; rfl
              simp only [Act.put, List.setIfInBounds_toArray, List.set_cons_zero, List.set_cons_succ]
              refine wpParts_det (by rfl) (fun W hE hN => ?_) ?_
              · go_simp; refine ⟨Below.refl _ _, ?_⟩; rfl
              simp only [Act.put, List.setIfInBounds_toArray, List.set_cons_zero, List.set_cons_succ]
              refine wpParts_det (by rfl) (fun W hE hN => ?_) ?_
              · go_simp; refine ⟨Below.refl _ _, ?_⟩; rfl
              simp only [Act.put, List.setIfInBounds_toArray, List.set_cons_zero, List.set_cons_succ]
              refine wpParts_det (by rfl) (fun W hE hN => ?_) ?_
              · go_simp; refine ⟨Below.refl _ _, ?_⟩; rfl
              simp only [Act.put, List.setIfInBounds_toArray, List.set_cons_zero, List.set_cons_succ]
              refine wpParts_det (by rfl) (fun W hE hN => ?_) ?_
              · have hc := fun b o h => hE.cell (p := ⟨b, o, none⟩) h
                go_simp; refine ⟨Below.refl _ _, ?_⟩; rfl
              simp only [Act.put, List.setIfInBounds_toArray, List.set_cons_zero, List.set_cons_succ]
              refine wpParts_det (by rfl) (fun W hE hN => ?_) ?_
              · go_simp; refine ⟨Below.refl _ _, ?_⟩; rfl
              simp only [Act.put, List.setIfInBounds_toArray, List.set_cons_zero, List.set_cons_succ]
              refine wpParts_det (by rfl) (fun W hE hN => ?_) ?_
              · go_simp; refine ⟨Below.refl _ _, ?_⟩; rfl
              simp only [Act.put, List.setIfInBounds_toArray, List.set_cons_zero, List.set_cons_succ]
              refine wpParts_det (by rfl) (fun W hE hN => ?_) ?_
              · go_simp; refine ⟨Below.refl _ _, ?_⟩; rfl
              simp only [Act.put, List.setIfInBounds_toArray, List.set_cons_zero, List.set_cons_succ]
              refine wpParts_det (by rfl) (fun W hE hN => ?_) ?_
              · have hc := fun b o h => hE.cell (p := ⟨b, o, none⟩) h
                go_simp; refine ⟨Below.refl _ _, ?_⟩; rfl
              simp only [Act.put, List.setIfInBounds_toArray, List.set_cons_zero, List.set_cons_succ]
              refine wpParts_det (by rfl) (fun W hE hN => ?_) ?_
              · go_simp; refine ⟨Below.refl _ _, ?_⟩; rfl
              simp only [Act.put, List.setIfInBounds_toArray, List.set_cons_zero, List.set_cons_succ]
              refine wpParts_det (by rfl) (fun W hE hN => ?_) ?_
              · have hc := fun b o h => hE.cell (p := ⟨b, o, none⟩) h
                go_simp; refine ⟨Below.refl _ _, ?_⟩; rfl
              simp only [Act.put, List.setIfInBounds_toArray, List.set_cons_zero, List.set_cons_succ]
              refine wpParts_det (by rfl) (fun W hE hN => ?_) ?_
              · go_simp; refine ⟨Below.refl _ _, ?_⟩; rfl
              simp only [Act.put, List.setIfInBounds_toArray, List.set_cons_zero, List.set_cons_succ]
              refine wpParts_det (by rfl) (fun W hE hN => ?_) ?_
              · go_simp; refine ⟨Below.refl _ _, ?_⟩; rfl
              simp only [Act.put, List.setIfInBounds_toArray, List.set_cons_zero, List.set_cons_succ]
              refine wpParts_det (by rfl) (fun W hE hN => ?_) ?_
              · have hc := fun b o h => hE.cell (p := ⟨b, o, none⟩) h
                go_simp; refine ⟨Below.refl _ _, ?_⟩; rfl
              simp only [Act.put, List.setIfInBounds_toArray, List.set_cons_zero, List.set_cons_succ]
              refine wpParts_det (by rfl) (fun W hE hN => ?_) ?_
              · go_simp; refine ⟨Below.refl _ _, ?_⟩; rfl
              simp only [Act.put, List.setIfInBounds_toArray, List.set_cons_zero, List.set_cons_succ]
              refine wpParts_det (by rfl) (fun W hE hN => ?_) ?_
              · go_simp; refine ⟨Below.refl _ _, ?_⟩; rfl
              simp only [Act.put, List.setIfInBounds_toArray, List.set_cons_zero, List.set_cons_succ]
              refine wpParts_det (by rfl) (fun W hE hN => ?_) ?_
              · go_simp; refine ⟨Below.refl _ _, ?_⟩; rfl
              simp only [Act.put, List.setIfInBounds_toArray, List.set_cons_zero, List.set_cons_succ]
              refine wpParts_end fun W2 hE2 hG2 => ?_
              have hcW2 := fun b o h => hE2.cell (p := ⟨b, o, none⟩) h
              have hfW2 := fun b o h => hE2.frozen (p := ⟨b, o, none⟩) h
              have BEL := Lib.hid (HBL.out.trans (hE2.mono HBL.out.size))
              clear hE2 hcW2 hfW2 q1 l1
              go_wp2_with fail
              go_roundw
              case rel => exact ⟨j + 1 + 1, HLT.out, by go_num, HSU2.out, BEL.out⟩
              case measure => have := HLT.out; simp [intOf]; omega
          | false =>
            go_wp2_with fail
            refine' wp_region_seq [(Sum.inl _ : Piece), (Sum.inl _ : Piece), (Sum.inl _ : Piece), (Sum.inl _ : Piece), (Sum.inl _ : Piece), (Sum.inl _ : Piece), (Sum.inl _ : Piece), (Sum.inl _ : Piece), (Sum.inl _ : Piece), (Sum.inl _ : Piece), (Sum.inl _ : Piece), (Sum.inl _ : Piece), (Sum.inl _ : Piece), (Sum.inl _ : Piece), (Sum.inl _ : Piece), (Sum.inl _ : Piece), (Sum.inl _ : Piece), (Sum.inl _ : Piece), (Sum.inl _ : Piece), (Sum.inl _ : Piece), (Sum.inl _ : Piece), (Sum.inl _ : Piece), (Sum.inl _ : Piece), (Sum.inl _ : Piece), (Sum.inl _ : Piece)] (by kernel_rfl) (by kernel_rfl) ?main4
            case main4 =>
              refine wpParts_det (by rfl) (fun W hE hN => ?_) ?_
              · go_simp; refine ⟨Below.refl _ _, ?_⟩; rfl
              simp only [Act.put, List.setIfInBounds_toArray, List.set_cons_zero, List.set_cons_succ]
              refine wpParts_det (by rfl) (fun W hE hN => ?_) ?_
              · have hc := fun b o h => hE.cell (p := ⟨b, o, none⟩) h
                go_simp; refine ⟨Below.refl _ _, ?_⟩; rfl
              simp only [Act.put, List.setIfInBounds_toArray, List.set_cons_zero, List.set_cons_succ]
              refine wpParts_det (by rfl) (fun W hE hN => ?_) ?_
              · go_simp; refine ⟨Below.refl _ _, ?_⟩; rfl
              simp only [Act.put, List.setIfInBounds_toArray, List.set_cons_zero, List.set_cons_succ]
              refine wpParts_det (by rfl) (fun W hE hN => ?_) ?_
              · go_simp; refine ⟨Below.refl _ _, ?_⟩; rfl
              simp only [Act.put, List.setIfInBounds_toArray, List.set_cons_zero, List.set_cons_succ]
              refine wpParts_det (by rfl) (fun W hE hN => ?_) ?_
              · have hc := fun b o h => hE.cell (p := ⟨b, o, none⟩) h
                go_simp; refine ⟨Below.refl _ _, ?_⟩; rfl
              simp only [Act.put, List.setIfInBounds_toArray, List.set_cons_zero, List.set_cons_succ]
              refine wpParts_det (by rfl) (fun W hE hN => ?_) ?_
              · go_simp; refine ⟨Below.refl _ _, ?_⟩; refine (Tryd_rValid u W HSZ.out).mono ?_; rintro e w' ⟨rfl, hb⟩; rw [HV.out]; refine ⟨?_, hb⟩; rfl
              simp only [Act.put, List.setIfInBounds_toArray, List.set_cons_zero, List.set_cons_succ]
              refine wpParts_det (by rfl) (fun W hE hN => ?_) ?_
              · go_simp; refine ⟨Below.refl _ _, ?_⟩; rfl
              simp only [Act.put, List.setIfInBounds_toArray, List.set_cons_zero, List.set_cons_succ]
              refine wpParts_det (by rfl) (fun W hE hN => ?_) ?_
              · go_simp; refine ⟨Below.refl _ _, ?_⟩; rfl
              simp only [Act.put, List.setIfInBounds_toArray, List.set_cons_zero, List.set_cons_succ]
              refine wpParts_det (by rfl) (fun W hE hN => ?_) ?_
              · go_simp; refine ⟨Below.refl _ _, ?_⟩; rfl
              simp only [Act.put, List.setIfInBounds_toArray, List.set_cons_zero, List.set_cons_succ]
              refine wpParts_det (by rfl) (fun W hE hN => ?_) ?_
              · go_simp; refine ⟨Below.refl _ _, ?_⟩; rfl
              simp only [Act.put, List.setIfInBounds_toArray, List.set_cons_zero, List.set_cons_succ]
              refine wpParts_det (by rfl) (fun W hE hN => ?_) ?_
              · go_simp; refine ⟨Below.refl _ _, ?_⟩; rfl
              simp only [Act.put, List.setIfInBounds_toArray, List.set_cons_zero, List.set_cons_succ]
              refine wpParts_det (by rfl) (fun W hE hN => ?_) ?_
              · go_simp; refine ⟨Below.refl _ _, ?_⟩; rfl
              simp only [Act.put, List.setIfInBounds_toArray, List.set_cons_zero, List.set_cons_succ]
              refine wpParts_det (by rfl) (fun W hE hN => ?_) ?_
              · have hc := fun b o h => hE.cell (p := ⟨b, o, none⟩) h
                go_simp; refine ⟨Below.refl _ _, ?_⟩; rfl
              simp only [Act.put, List.setIfInBounds_toArray, List.set_cons_zero, List.set_cons_succ]
              refine wpParts_det (by rfl) (fun W hE hN => ?_) ?_
              · go_simp; refine ⟨Below.refl _ _, ?_⟩; rfl
              simp only [Act.put, List.setIfInBounds_toArray, List.set_cons_zero, List.set_cons_succ]
              refine wpParts_det (by rfl) (fun W hE hN => ?_) ?_
              · go_simp; refine ⟨Below.refl _ _, ?_⟩; rfl
              simp only [Act.put, List.setIfInBounds_toArray, List.set_cons_zero, List.set_cons_succ]
              refine wpParts_det (by rfl) (fun W hE hN => ?_) ?_
              · go_simp; refine ⟨Below.refl _ _, ?_⟩; rfl
              simp only [Act.put, List.setIfInBounds_toArray, List.set_cons_zero, List.set_cons_succ]
              refine wpParts_det (by rfl) (fun W hE hN => ?_) ?_
              · have hc := fun b o h => hE.cell (p := ⟨b, o, none⟩) h
                go_simp; refine ⟨Below.refl _ _, ?_⟩; rfl
              simp only [Act.put, List.setIfInBounds_toArray, List.set_cons_zero, List.set_cons_succ]
              refine wpParts_det (by rfl) (fun W hE hN => ?_) ?_
              · go_simp; refine ⟨Below.refl _ _, ?_⟩; rfl
              simp only [Act.put, List.setIfInBounds_toArray, List.set_cons_zero, List.set_cons_succ]
              refine wpParts_det (by rfl) (fun W hE hN => ?_) ?_
              · have hc := fun b o h => hE.cell (p := ⟨b, o, none⟩) h
                go_simp; refine ⟨Below.refl _ _, ?_⟩; rfl
              simp only [Act.put, List.setIfInBounds_toArray, List.set_cons_zero, List.set_cons_succ]
              refine wpParts_det (by rfl) (fun W hE hN => ?_) ?_
              · go_simp; refine ⟨Below.refl _ _, ?_⟩; rfl
              simp only [Act.put, List.setIfInBounds_toArray, List.set_cons_zero, List.set_cons_succ]
              refine wpParts_det (by rfl) (fun W hE hN => ?_) ?_
              · go_simp; refine ⟨Below.refl _ _, ?_⟩; rfl
              simp only [Act.put, List.setIfInBounds_toArray, List.set_cons_zero, List.set_cons_succ]
              refine wpParts_det (by rfl) (fun W hE hN => ?_) ?_
              · have hc := fun b o h => hE.cell (p := ⟨b, o, none⟩) h
                go_simp; refine ⟨Below.refl _ _, ?_⟩; rfl
              simp only [Act.put, List.setIfInBounds_toArray, List.set_cons_zero, List.set_cons_succ]
              refine wpParts_det (by rfl) (fun W hE hN => ?_) ?_
              · go_simp; refine ⟨Below.refl _ _, ?_⟩; rfl
              simp only [Act.put, List.setIfInBounds_toArray, List.set_cons_zero, List.set_cons_succ]
              refine wpParts_det (by rfl) (fun W hE hN => ?_) ?_
              · go_simp; refine ⟨Below.refl _ _, ?_⟩; rfl
              simp only [Act.put, List.setIfInBounds_toArray, List.set_cons_zero, List.set_cons_succ]
              refine wpParts_det (by rfl) (fun W hE hN => ?_) ?_
              · go_simp; refine ⟨Below.refl _ _, ?_⟩; rfl
              simp only [Act.put, List.setIfInBounds_toArray, List.set_cons_zero, List.set_cons_succ]
              refine wpParts_end fun W2 hE2 hG2 => ?_
              have hcW2 := fun b o h => hE2.cell (p := ⟨b, o, none⟩) h
              have hfW2 := fun b o h => hE2.frozen (p := ⟨b, o, none⟩) h
              have e : r = false := by
                rw [← HR.out]
                have h1 : keysTo keys ql = false := by
                  cases hkq : keysTo keys ql with
                  | false => rfl
                  | true =>
                    have h2 := keysTo_mono hkq (show j + 1 + 1 ≤ ql from HLT.out)
                    rw [HSU2.out] at h2
                    cases h2
                rw [h1, Bool.false_and]
              subst e
              have BEL := Lib.hid (BEL0.out.trans ((HBL.out.trans (hE2.mono HBL.out.size)).mono BEL0.out.size))
              clear hE2 hcW2 hfW2 q1 l1
              go_wp2
              go_ret
              exact ⟨rfl, BEL.out⟩
    · have g1 : ¬ (i : Int) < (ql : Int) := by omega
      obtain rfl : i = ql := by omega
      have hr := HR.out
      rw [HKT.out, Bool.true_and] at hr
      have BEL := Lib.hid (BEL0.out.trans (HBL.out.mono BEL0.out.size))
      clear hlt hi
      by_cases k1 : kind = 1
      · subst k1
        have HR2 := Lib.hid hr
        clear hr HR
        go_wp2_with fail
        go_quiet (fail)
        go_wp2
        all_goals
          go_ret
          refine ⟨?_, by have h := BEL.out; exact (by repeat (first | (with_reducible exact Below.refl _ _) | (with_reducible exact Below.refl _ _) | (with_reducible refine Below.setCell ?_ (by first | omega | (simp; done) | (simp; omega)) _) | (with_reducible refine Below.alloc ?_ (by first | omega | (simp; done) | (simp; omega)) _) | (with_reducible refine Below.drew ?_) | (with_reducible refine below_drewN ?_ _) | (with_reducible refine Below.trans ?_ (h.mono (by first | omega | (simp; done) | (simp; omega))))))⟩
          rw [← HR2.out]
          simp [*] <;> (rw [Bool.eq_iff_iff]; simp) <;> omega
      · by_cases k2 : kind = 2
        · subst k2
          have HR2 := Lib.hid hr
          clear hr HR
          go_wp2_with fail
          go_quiet (fail)
          go_wp2
          all_goals
            go_ret
            refine ⟨?_, by have h := BEL.out; exact (by repeat (first | (with_reducible exact Below.refl _ _) | (with_reducible exact Below.refl _ _) | (with_reducible refine Below.setCell ?_ (by first | omega | (simp; done) | (simp; omega)) _) | (with_reducible refine Below.alloc ?_ (by first | omega | (simp; done) | (simp; omega)) _) | (with_reducible refine Below.drew ?_) | (with_reducible refine below_drewN ?_ _) | (with_reducible refine Below.trans ?_ (h.mono (by first | omega | (simp; done) | (simp; omega))))))⟩
            rw [← HR2.out]
            simp [*] <;> (rw [Bool.eq_iff_iff]; simp) <;> omega
        · by_cases k3 : kind = 3
          · subst k3
            have HR2 := Lib.hid hr
            clear hr HR
            go_wp2_with fail
            go_quiet (fail)
            go_wp2
            all_goals
              go_ret
              refine ⟨?_, by have h := BEL.out; exact (by repeat (first | (with_reducible exact Below.refl _ _) | (with_reducible exact Below.refl _ _) | (with_reducible refine Below.setCell ?_ (by first | omega | (simp; done) | (simp; omega)) _) | (with_reducible refine Below.alloc ?_ (by first | omega | (simp; done) | (simp; omega)) _) | (with_reducible refine Below.drew ?_) | (with_reducible refine below_drewN ?_ _) | (with_reducible refine Below.trans ?_ (h.mono (by first | omega | (simp; done) | (simp; omega))))))⟩
              rw [← HR2.out]
              simp [*] <;> (rw [Bool.eq_iff_iff]; simp) <;> omega
          · by_cases k4 : kind = 4
            · subst k4
              have HR2 := Lib.hid hr
              clear hr HR
              by_cases hn : n = 0
              · subst hn
                go_wp2_with fail
                go_quiet (fail)
                go_wp2_with fail
                refine (Tryd_rValid s _ HS.out).mono ?_; rintro e w2 ⟨rfl, hb2⟩
                have BEL2 := Lib.hid (BEL.out.trans ((show Below wr.heap.size wr w2 from (by repeat (first | (with_reducible exact Below.refl _ _) | (with_reducible exact Below.refl _ _) | (with_reducible refine Below.setCell ?_ (by first | omega | (simp; done) | (simp; omega)) _) | (with_reducible refine Below.alloc ?_ (by first | omega | (simp; done) | (simp; omega)) _) | (with_reducible refine Below.drew ?_) | (with_reducible refine below_drewN ?_ _) | (with_reducible refine Below.trans ?_ (hb2.mono (by first | omega | (simp; done) | (simp; omega))))))).mono BEL.out.size))
                obtain ⟨vs, hvs⟩ : ∃ vs, validB s.data.toList = vs := ⟨_, rfl⟩
                have HVS := Lib.hid hvs
                rw [hvs]
                clear hb2 hvs
                go_wp2
                all_goals
                  go_ret
                  refine ⟨?_, by have h := BEL2.out; exact (by repeat (first | (with_reducible exact Below.refl _ _) | (with_reducible exact Below.refl _ _) | (with_reducible refine Below.setCell ?_ (by first | omega | (simp; done) | (simp; omega)) _) | (with_reducible refine Below.alloc ?_ (by first | omega | (simp; done) | (simp; omega)) _) | (with_reducible refine Below.drew ?_) | (with_reducible refine below_drewN ?_ _) | (with_reducible refine Below.trans ?_ (h.mono (by first | omega | (simp; done) | (simp; omega))))))⟩
                  rw [← HR2.out]
                  simp [*, HVS.out] <;> (rw [Bool.eq_iff_iff]; simp) <;> omega
              · have hn0 : (n == 0) = false := by simp [hn]
                have e : r = false := by rw [← HR2.out]; simp [hn]
                clear HR2
                subst e
                go_wp2_with fail
                go_quiet (fail)
                go_wp2
                go_ret
                exact ⟨rfl, by have h := BEL.out; exact (by repeat (first | (with_reducible exact Below.refl _ _) | (with_reducible exact Below.refl _ _) | (with_reducible refine Below.setCell ?_ (by first | omega | (simp; done) | (simp; omega)) _) | (with_reducible refine Below.alloc ?_ (by first | omega | (simp; done) | (simp; omega)) _) | (with_reducible refine Below.drew ?_) | (with_reducible refine below_drewN ?_ _) | (with_reducible refine Below.trans ?_ (h.mono (by first | omega | (simp; done) | (simp; omega))))))⟩
            · by_cases k5 : kind = 5
              · subst k5
                have HR2 := Lib.hid hr
                clear hr HR
                go_wp2_with fail
                go_quiet (fail)
                go_wp2
                all_goals
                  go_ret
                  refine ⟨?_, by have h := BEL.out; exact (by repeat (first | (with_reducible exact Below.refl _ _) | (with_reducible exact Below.refl _ _) | (with_reducible refine Below.setCell ?_ (by first | omega | (simp; done) | (simp; omega)) _) | (with_reducible refine Below.alloc ?_ (by first | omega | (simp; done) | (simp; omega)) _) | (with_reducible refine Below.drew ?_) | (with_reducible refine below_drewN ?_ _) | (with_reducible refine Below.trans ?_ (h.mono (by first | omega | (simp; done) | (simp; omega))))))⟩
                  rw [← HR2.out]
                  simp [*] <;> (rw [Bool.eq_iff_iff]; simp) <;> omega
              · by_cases k6 : kind = 6
                · subst k6
                  have HR2 := Lib.hid hr
                  clear hr HR
                  go_wp2_with fail
                  go_quiet (fail)
                  go_wp2
                  all_goals
                    go_ret
                    refine ⟨?_, by have h := BEL.out; exact (by repeat (first | (with_reducible exact Below.refl _ _) | (with_reducible exact Below.refl _ _) | (with_reducible refine Below.setCell ?_ (by first | omega | (simp; done) | (simp; omega)) _) | (with_reducible refine Below.alloc ?_ (by first | omega | (simp; done) | (simp; omega)) _) | (with_reducible refine Below.drew ?_) | (with_reducible refine below_drewN ?_ _) | (with_reducible refine Below.trans ?_ (h.mono (by first | omega | (simp; done) | (simp; omega))))))⟩
                    rw [← HR2.out]
                    simp [*] <;> (rw [Bool.eq_iff_iff]; simp) <;> omega
                · have e : r = false := by rw [← hr, if_neg k1, if_neg k2, if_neg k3, if_neg k4, if_neg k5, if_neg k6]
                  have d1 : (kind == 1) = false := by simp [k1]
                  have d2 : (kind == 2) = false := by simp [k2]
                  have d3 : (kind == 3) = false := by simp [k3]
                  have d4 : (kind == 4) = false := by simp [k4]
                  have d5 : (kind == 5) = false := by simp [k5]
                  have d6 : (kind == 6) = false := by simp [k6]
                  clear hr HR k1 k2 k3 k4 k5 k6
                  subst e
                  go_wp2_with fail
                  go_quiet (fail)
                  go_wp2
                  go_ret
                  exact ⟨rfl, by have h := BEL.out; exact (by repeat (first | (with_reducible exact Below.refl _ _) | (with_reducible exact Below.refl _ _) | (with_reducible refine Below.setCell ?_ (by first | omega | (simp; done) | (simp; omega)) _) | (with_reducible refine Below.alloc ?_ (by first | omega | (simp; done) | (simp; omega)) _) | (with_reducible refine Below.drew ?_) | (with_reducible refine below_drewN ?_ _) | (with_reducible refine Below.trans ?_ (h.mono (by first | omega | (simp; done) | (simp; omega))))))⟩
end Go.Proofs.YtmcmknndhppljaaDoor
