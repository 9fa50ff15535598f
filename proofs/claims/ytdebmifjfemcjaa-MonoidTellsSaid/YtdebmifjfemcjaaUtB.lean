/-
  The reference of layer 1: Begin, walked.
-/
import Derived.Test.YtdebmifjfemcjaaUtA
import Derived.BigRegion
namespace Go.Dav
set_option linter.unusedVariables false
set_option linter.unusedSimpArgs false
open Go Go.RowKit
/-- What a number is made of, of the first byte. -/
def cpFirst (b : List UInt8) (n : Nat) : Nat :=
  match b with
  | [] => 0
  | x :: _ => if n = 1 then x.toNat else if n = 2 then x.toNat % 32 else if n = 3 then x.toNat % 16 else x.toNat % 8
/-- .. and of the next ones, up to the i-th. -/
def cpTo (b : List UInt8) (n i : Nat) : Nat := ((b.take i).drop 1).foldl (fun c x => c * 64 + x.toNat % 64) (cpFirst b n)
def cpAt (b : List UInt8) (n : Nat) : Nat := cpTo b n n
theorem cpTo_one (b : List UInt8) (n : Nat) : cpTo b n 1 = cpFirst b n := by
  unfold cpTo; cases b <;> simp
theorem cpTo_succ {b : List UInt8} {n i : Nat} {x : UInt8} (hi : 1 ≤ i) (hx : b[i]? = some x) : cpTo b n (i + 1) = cpTo b n i * 64 + x.toNat % 64 := by
  unfold cpTo
  have hl := (List.getElem?_eq_some_iff.1 hx).1
  have e : b.take (i + 1) = b.take i ++ [x] := by rw [List.take_add_one, hx]; rfl
  rw [e, List.drop_append_of_le_length (by rw [List.length_take]; omega), List.foldl_append]
  rfl
theorem cpFirst_le (b : List UInt8) (n : Nat) : cpFirst b n < 256 ∧ (2 ≤ n → cpFirst b n < 32) ∧ (3 ≤ n → cpFirst b n < 16) ∧ (4 ≤ n → cpFirst b n < 8) := by
  unfold cpFirst
  cases b with
  | nil => simp
  | cons x xs =>
    have := x.toNat_lt
    dsimp only
    by_cases h1 : n = 1
    · rw [if_pos h1]; omega
    · rw [if_neg h1]
      by_cases h2 : n = 2
      · rw [if_pos h2]; omega
      · rw [if_neg h2]
        by_cases h3 : n = 3
        · rw [if_pos h3]; omega
        · rw [if_neg h3]; omega
theorem cpTo_le (b : List UInt8) (n : Nat) : ∀ i, 1 ≤ i → i ≤ 4 → i ≤ b.length → cpTo b n i < 256 * 64 ^ (i - 1)
  | 0, h, _, _ => by omega
  | 1, _, _, _ => by rw [cpTo_one]; have := (cpFirst_le b n).1; simpa using this
  | i + 2, _, h4, hl => by
    have ih := cpTo_le b n (i + 1) (by omega) (by omega) (by omega)
    obtain ⟨x, hx⟩ : ∃ x, b[i + 1]? = some x := ⟨_, List.getElem?_eq_getElem (by omega)⟩
    rw [cpTo_succ (by omega) hx]
    rw [show i + 1 - 1 = i by omega] at ih
    rw [show i + 2 - 1 = i + 1 by omega, Nat.pow_succ]
    omega
theorem cpTo_lt (b : List UInt8) (n i : Nat) (h1 : 1 ≤ i) (h4 : i ≤ 4) (hl : i ≤ b.length) : cpTo b n i < 67108864 := by
  have h := cpTo_le b n i h1 h4 hl
  have : (256 * 64 ^ (i - 1) : Nat) ≤ 67108864 := by
    rcases (by omega : i = 1 ∨ i = 2 ∨ i = 3 ∨ i = 4) with rfl | rfl | rfl | rfl <;> decide
  omega
/-- Do the first n bytes make a code point whose bytes they are? -/
def beginOk (b : List UInt8) (n : Nat) : Bool := decide (n ≤ b.length) && (isCp (cpAt b n) && decide (cpBytes (cpAt b n) = b.take n))
/-- The code point that begins a row, and its size. -/
def beginOf (b : List UInt8) : Nat × Nat :=
  if beginOk b 1 = true then (cpAt b 1, 1) else if beginOk b 2 = true then (cpAt b 2, 2) else if beginOk b 3 = true then (cpAt b 3, 3) else if beginOk b 4 = true then (cpAt b 4, 4) else (0, 0)
theorem beginOf_ok {b : List UInt8} {n : Nat} (h1 : 1 ≤ n) (h4 : n ≤ 4) (h : beginOk b n = true) (hb : ∀ m, 1 ≤ m → m < n → beginOk b m = false) : beginOf b = (cpAt b n, n) := by
  unfold beginOf
  rcases (by omega : n = 1 ∨ n = 2 ∨ n = 3 ∨ n = 4) with rfl | rfl | rfl | rfl
  · rw [if_pos h]
  · rw [if_neg (by rw [hb 1 (by omega) (by omega)]; decide), if_pos h]
  · rw [if_neg (by rw [hb 1 (by omega) (by omega)]; decide), if_neg (by rw [hb 2 (by omega) (by omega)]; decide), if_pos h]
  · rw [if_neg (by rw [hb 1 (by omega) (by omega)]; decide), if_neg (by rw [hb 2 (by omega) (by omega)]; decide), if_neg (by rw [hb 3 (by omega) (by omega)]; decide), if_pos h]
theorem beginOf_no {b : List UInt8} (hb : ∀ m, 1 ≤ m → m ≤ 4 → beginOk b m = false) : beginOf b = (0, 0) := by
  unfold beginOf
  rw [if_neg (by rw [hb 1 (by omega) (by omega)]; decide), if_neg (by rw [hb 2 (by omega) (by omega)]; decide), if_neg (by rw [hb 3 (by omega) (by omega)]; decide), if_neg (by rw [hb 4 (by omega) (by omega)]; decide)]
theorem startsB_take {b x : List UInt8} {n : Nat} (hn : n ≤ b.length) (hx : x.length = n) : startsB b x = decide (x = b.take n) := by
  unfold startsB
  rw [hx]
  by_cases h : x = b.take n
  · simp [h, hn]
  · have h' : ¬ b.take n = x := fun e => h e.symm
    simp [h, h', hn]
theorem beginOk_cases {b : List UInt8} {n : Nat} (hn : n ≤ b.length) : beginOk b n = (isCp (cpAt b n) && (decide ((cpBytes (cpAt b n)).length = n) && startsB b (cpBytes (cpAt b n)))) := by
  unfold beginOk
  rw [decide_eq_true hn, Bool.true_and]
  congr 1
  by_cases h : (cpBytes (cpAt b n)).length = n
  · rw [startsB_take hn h]; simp [h]
  · have : ¬ cpBytes (cpAt b n) = b.take n := fun e => h (by rw [e, List.length_take]; omega)
    simp [h, this]
end Go.Dav
namespace Go.Proofs.Ytdebmifjfemcjaa
set_option linter.unusedVariables false
set_option linter.unusedSimpArgs false
open Go.RowKit Go.Dav
attribute [local go_sem] Gives ite_val ite_val_true

set_option maxRecDepth 8000 in
set_option maxHeartbeats 4000000 in
theorem Try_rBegin (ba : Option Addr) (bl bc : Nat) (b : List UInt8) (w : World) (hb : BytesAt w ba bl bc b) (h1 : 1 ≤ bl) :
    Calls Try.prog 56 #[.slice ba bl bc] w fun e w' => e = .returned (.tuple #[.int .i64 ((beginOf b).1 : Int), .int .i64 ((beginOf b).2 : Int)]) ∧ Below w.heap.size w w' := by
  obtain ⟨r, hr⟩ : ∃ r, beginOf b = r := ⟨_, rfl⟩
  rw [hr]
  have HR := Lib.hid hr
  have HB := Lib.hid hb
  have HL := Lib.hid hb.hlen
  have hbf := hb.hfew
  clear hr hb
  go_enter Try.func56, Try.ntmps56
  go_wp2_with fail
  go_loopw [4] (fun ix wr => ∃ n : Nat, 1 ≤ n ∧ n ≤ 5 ∧ ix = .int .i64 (n : Int) ∧ Below w.heap.size w wr ∧ ∀ m, 1 ≤ m → m < n → beginOk b m = false) (fun ix _ => 5 - (intOf ix).toNat)
  case atStart => exact ⟨1, by omega, by omega, by go_num, Below.refl _ _, fun m h h2 => by omega⟩
  case round =>
    obtain ⟨n, hn1, hn5, rfl, hbel, hno⟩ := hrel
    have HBE := Lib.hid hbel
    have HNO := Lib.hid hno
    clear hbel hno
    by_cases hn4 : n ≤ 4
    · by_cases hnl : n ≤ bl
      · obtain ⟨x0, hx0⟩ : ∃ x0, b[0]? = some x0 := ⟨_, List.getElem?_eq_getElem (by have := HL.out; omega)⟩
        obtain ⟨bb, bo, rfl, hbb, hbcell⟩ := (HB.out.ext HBE.out).hat 0 x0 hx0
        rw [Nat.add_zero] at hbcell
        have g1 : (n : Int) ≤ 4 := by omega
        have g2 : (n : Int) ≤ (bl : Int) := by omega
        have HX0 := Lib.hid hx0
        have hx8 := x0.toNat_lt
        have hbcons : ∃ xs, b = x0 :: xs := by
          cases b with
          | nil => simp at hx0
          | cons y ys => simp at hx0; exact ⟨ys, by rw [hx0]⟩
        have HBC := Lib.hid hbcons
        have HNL := Lib.hid hnl
        clear hx0 hbcons
        have hbl0 : 0 < bl := h1
        rcases (by omega : n = 1 ∨ n = 2 ∨ n = 3 ∨ n = 4) with rfl | rfl | rfl | rfl
        · have HCF := Lib.hid (show ((cpFirst b 1 : Nat) : Int) = (x0.toNat : Int) by obtain ⟨xs, e⟩ := HBC.out; rw [e]; rfl)
          clear hn1 hn5 hn4 hnl
          go_wp2_with fail
          go_loopw [5, 6] (fun cx ix wi => ∃ i : Nat, 1 ≤ i ∧ i ≤ 1 ∧ ix = .int .i64 (i : Int) ∧ cx = .int .i64 ((cpTo b 1 i : Nat) : Int) ∧ Below w.heap.size w wi) (fun _ ix _ => 1 - (intOf ix).toNat)
          case atStart => exact ⟨1, by omega, by omega, by go_num, by rw [cpTo_one, HCF.out], by have h := HBE.out; have hs := h.size; exact (by repeat (first | (with_reducible exact Below.refl _ _) | (with_reducible exact Below.refl _ _) | (with_reducible refine Below.setCell ?_ (by first | omega | (simp; done) | (simp; omega)) _) | (with_reducible refine Below.alloc ?_ (by first | omega | (simp; done) | (simp; omega)) _) | (with_reducible refine Below.drew ?_) | (with_reducible refine below_drewN ?_ _) | (with_reducible refine Below.trans ?_ (h.mono (by first | omega | (simp; done) | (simp; omega))))))⟩
          case round =>
            obtain ⟨i, hi1, hiN, rfl, rfl, hbi⟩ := hrel
            have HBI := Lib.hid hbi
            clear hbi
            by_cases hin : i < 1
            · obtain ⟨x, hx⟩ : ∃ x, b[i]? = some x := ⟨_, List.getElem?_eq_getElem (by have := HL.out; have := HNL.out; omega)⟩
              obtain ⟨bb2, bo2, e2, hbb2, hbcell2⟩ := (HB.out.ext HBI.out).hat i x hx
              cases e2
              have hlt := cpTo_lt b 1 i hi1 (by omega) (by have := HL.out; have := HNL.out; omega)
              have hs := cpTo_succ (n := 1) hi1 hx
              obtain ⟨c, hc⟩ : ∃ c, cpTo b 1 i = c := ⟨_, rfl⟩
              rw [hc] at hlt hs ⊢
              have hx8' := x.toNat_lt
              have HS := Lib.hid hs
              have HIN := Lib.hid hin
              have k1 : (i : Int) < 1 := by omega
              have k2 : (i : Int) < (bl : Int) := by have := HNL.out; omega
              clear hx hs hc hin hiN
              go_wp2_with fail
              go_roundw
              case rel => exact ⟨i + 1, by omega, HIN.out, by go_num, by rw [HS.out]; simp, by have h := HBI.out; exact (by repeat (first | (with_reducible exact Below.refl _ _) | (with_reducible exact Below.refl _ _) | (with_reducible refine Below.setCell ?_ (by first | omega | (simp; done) | (simp; omega)) _) | (with_reducible refine Below.alloc ?_ (by first | omega | (simp; done) | (simp; omega)) _) | (with_reducible refine Below.drew ?_) | (with_reducible refine below_drewN ?_ _) | (with_reducible refine Below.trans ?_ (h.mono (by first | omega | (simp; done) | (simp; omega))))))⟩
              case measure => have := HIN.out; simp [intOf]; omega
            · obtain rfl : i = 1 := by omega
              have hlt := cpTo_lt b 1 1 (by omega) (by omega) (by have := HL.out; have := HNL.out; omega)
              obtain ⟨c, hc⟩ : ∃ c, cpAt b 1 = c := ⟨_, rfl⟩
              have hc' : cpTo b 1 1 = c := hc
              rw [hc'] at hlt ⊢
              have HC := Lib.hid hc
              clear hin hi1 hiN hc hc'
              go_wp2_with fail
              refine (Try_rIs c wr).mono ?_; rintro e w2 ⟨rfl, hb2⟩
              have HB2 := Lib.hid (HBI.out.trans (hb2.mono HBI.out.size))
              have HOK := Lib.hid (beginOk_cases (b := b) (n := 1) (by have := HL.out; have := HNL.out; omega))
              clear hb2
              cases hic : isCp c with
              | false =>
                have HNOK := Lib.hid (show beginOk b 1 = false by rw [HOK.out, HC.out, hic]; rfl)
                clear hic
                go_wp2_with fail
                go_roundw
                case rel => exact ⟨1 + 1, by omega, by omega, by go_num, HB2.out, fun m hm1 hm2 => by
                  by_cases hmn : m < 1
                  · exact HNO.out m hm1 hmn
                  · obtain rfl : m = 1 := by omega
                    exact HNOK.out⟩
                case measure => simp [intOf]
              | true =>
                have hcl : c ≤ 1114111 := by
                  unfold isCp at hic
                  rw [Bool.and_eq_true, decide_eq_true_eq] at hic
                  exact hic.1
                have HIC := Lib.hid hic
                clear hic
                go_wp2_with fail
                refine (Try_rBytes c w2 hcl).mono ?_; rintro e w3 ⟨⟨p, hp, rfl, hob⟩, hb3⟩
                obtain ⟨ol, hol⟩ : ∃ l, cpBytes c = l := ⟨_, rfl⟩
                rw [hol] at hob ⊢
                obtain ⟨on, hon⟩ : ∃ n, ol.length = n := ⟨_, rfl⟩
                rw [hon] at hob ⊢
                have HOB := Lib.hid hob
                have HB3 := Lib.hid (HB2.out.trans (hb3.mono HB2.out.size))
                have HOL := Lib.hid hol
                have HON := Lib.hid hon
                clear hob hb3 hol hon hcl
                by_cases hn : on = 1
                · subst hn
                  go_wp2_with fail
                  have hSt := Try_rStarts (some ⟨bb, bo, none⟩) (some ⟨p, 0, none⟩) bl bc 1 1 b ol w3 (HB.out.ext HB3.out) HOB.out
                  with_reducible refine hSt.mono ?_
                  rintro e w4 ⟨rfl, hb4⟩
                  have HB4 := Lib.hid (HB3.out.trans (hb4.mono HB3.out.size))
                  clear hb4
                  cases hst : startsB b ol with
                  | true =>
                    have e : r = (c, 1) := by
                      have h := HOK.out
                      rw [HC.out, HIC.out, HOL.out, HON.out, hst, decide_eq_true rfl] at h
                      rw [← HR.out, ← HC.out]
                      exact beginOf_ok (by omega) (by omega) h HNO.out
                    clear hst HR
                    subst e
                    go_wp2
                    go_ret2
                    exact ⟨rfl, HB4.out⟩
                  | false =>
                    have HNOK := Lib.hid (show beginOk b 1 = false by rw [HOK.out, HC.out, HIC.out, HOL.out, hst]; simp)
                    clear hst
                    go_wp2_with fail
                    go_roundw
                    case rel => exact ⟨1 + 1, by omega, by omega, by go_num, HB4.out, fun m hm1 hm2 => by
                      by_cases hmn : m < 1
                      · exact HNO.out m hm1 hmn
                      · obtain rfl : m = 1 := by omega
                        exact HNOK.out⟩
                    case measure => simp [intOf]
                · have d1 : ((on : Int) == 1) = false := by rw [beq_eq_false_iff_ne]; omega
                  have HNOK := Lib.hid (show beginOk b 1 = false by rw [HOK.out, HC.out, HIC.out, HOL.out, HON.out, decide_eq_false hn]; rfl)
                  clear hn
                  go_wp2_with fail
                  go_roundw
                  case rel => exact ⟨1 + 1, by omega, by omega, by go_num, HB3.out, fun m hm1 hm2 => by
                    by_cases hmn : m < 1
                    · exact HNO.out m hm1 hmn
                    · obtain rfl : m = 1 := by omega
                      exact HNOK.out⟩
                  case measure => simp [intOf]
        ·
          have HCF := Lib.hid (show ((cpFirst b 2 : Nat) : Int) = (x0.toNat : Int) % 32 by obtain ⟨xs, e⟩ := HBC.out; rw [e]; rfl)
          clear hn1 hn5 hn4 hnl
          go_wp2_with fail
          go_region
          go_wp2_with fail
          go_loopw [5, 6] (fun cx ix wi => ∃ i : Nat, 1 ≤ i ∧ i ≤ 2 ∧ ix = .int .i64 (i : Int) ∧ cx = .int .i64 ((cpTo b 2 i : Nat) : Int) ∧ Below w.heap.size w wi) (fun _ ix _ => 2 - (intOf ix).toNat)
          case atStart => exact ⟨1, by omega, by omega, by go_num, by rw [cpTo_one, HCF.out], by have h := HBE.out; have hs := h.size; exact (by repeat (first | (with_reducible exact Below.refl _ _) | (with_reducible exact Below.refl _ _) | (with_reducible refine Below.setCell ?_ (by first | omega | (simp; done) | (simp; omega)) _) | (with_reducible refine Below.alloc ?_ (by first | omega | (simp; done) | (simp; omega)) _) | (with_reducible refine Below.drew ?_) | (with_reducible refine below_drewN ?_ _) | (with_reducible refine Below.trans ?_ (h.mono (by first | omega | (simp; done) | (simp; omega))))))⟩
          case round =>
            obtain ⟨i, hi1, hiN, rfl, rfl, hbi⟩ := hrel
            have HBI := Lib.hid hbi
            clear hbi
            by_cases hin : i < 2
            · obtain ⟨x, hx⟩ : ∃ x, b[i]? = some x := ⟨_, List.getElem?_eq_getElem (by have := HL.out; have := HNL.out; omega)⟩
              obtain ⟨bb2, bo2, e2, hbb2, hbcell2⟩ := (HB.out.ext HBI.out).hat i x hx
              cases e2
              have hlt := cpTo_lt b 2 i hi1 (by omega) (by have := HL.out; have := HNL.out; omega)
              have hs := cpTo_succ (n := 2) hi1 hx
              obtain ⟨c, hc⟩ : ∃ c, cpTo b 2 i = c := ⟨_, rfl⟩
              rw [hc] at hlt hs ⊢
              have hx8' := x.toNat_lt
              have HS := Lib.hid hs
              have HIN := Lib.hid hin
              have k1 : (i : Int) < 2 := by omega
              have k2 : (i : Int) < (bl : Int) := by have := HNL.out; omega
              clear hx hs hc hin hiN
              go_wp2_with fail
              go_roundw
              case rel => exact ⟨i + 1, by omega, HIN.out, by go_num, by rw [HS.out]; simp, by have h := HBI.out; exact (by repeat (first | (with_reducible exact Below.refl _ _) | (with_reducible exact Below.refl _ _) | (with_reducible refine Below.setCell ?_ (by first | omega | (simp; done) | (simp; omega)) _) | (with_reducible refine Below.alloc ?_ (by first | omega | (simp; done) | (simp; omega)) _) | (with_reducible refine Below.drew ?_) | (with_reducible refine below_drewN ?_ _) | (with_reducible refine Below.trans ?_ (h.mono (by first | omega | (simp; done) | (simp; omega))))))⟩
              case measure => have := HIN.out; simp [intOf]; omega
            · obtain rfl : i = 2 := by omega
              have hlt := cpTo_lt b 2 2 (by omega) (by omega) (by have := HL.out; have := HNL.out; omega)
              obtain ⟨c, hc⟩ : ∃ c, cpAt b 2 = c := ⟨_, rfl⟩
              have hc' : cpTo b 2 2 = c := hc
              rw [hc'] at hlt ⊢
              have HC := Lib.hid hc
              clear hin hi1 hiN hc hc'
              go_wp2_with fail
              refine (Try_rIs c wr).mono ?_; rintro e w2 ⟨rfl, hb2⟩
              have HB2 := Lib.hid (HBI.out.trans (hb2.mono HBI.out.size))
              have HOK := Lib.hid (beginOk_cases (b := b) (n := 2) (by have := HL.out; have := HNL.out; omega))
              clear hb2
              cases hic : isCp c with
              | false =>
                have HNOK := Lib.hid (show beginOk b 2 = false by rw [HOK.out, HC.out, hic]; rfl)
                clear hic
                go_wp2_with fail
                go_roundw
                case rel => exact ⟨2 + 1, by omega, by omega, by go_num, HB2.out, fun m hm1 hm2 => by
                  by_cases hmn : m < 2
                  · exact HNO.out m hm1 hmn
                  · obtain rfl : m = 2 := by omega
                    exact HNOK.out⟩
                case measure => simp [intOf]
              | true =>
                have hcl : c ≤ 1114111 := by
                  unfold isCp at hic
                  rw [Bool.and_eq_true, decide_eq_true_eq] at hic
                  exact hic.1
                have HIC := Lib.hid hic
                clear hic
                go_wp2_with fail
                refine (Try_rBytes c w2 hcl).mono ?_; rintro e w3 ⟨⟨p, hp, rfl, hob⟩, hb3⟩
                obtain ⟨ol, hol⟩ : ∃ l, cpBytes c = l := ⟨_, rfl⟩
                rw [hol] at hob ⊢
                obtain ⟨on, hon⟩ : ∃ n, ol.length = n := ⟨_, rfl⟩
                rw [hon] at hob ⊢
                have HOB := Lib.hid hob
                have HB3 := Lib.hid (HB2.out.trans (hb3.mono HB2.out.size))
                have HOL := Lib.hid hol
                have HON := Lib.hid hon
                clear hob hb3 hol hon hcl
                by_cases hn : on = 2
                · subst hn
                  go_wp2_with fail
                  have hSt := Try_rStarts (some ⟨bb, bo, none⟩) (some ⟨p, 0, none⟩) bl bc 2 2 b ol w3 (HB.out.ext HB3.out) HOB.out
                  with_reducible refine hSt.mono ?_
                  rintro e w4 ⟨rfl, hb4⟩
                  have HB4 := Lib.hid (HB3.out.trans (hb4.mono HB3.out.size))
                  clear hb4
                  cases hst : startsB b ol with
                  | true =>
                    have e : r = (c, 2) := by
                      have h := HOK.out
                      rw [HC.out, HIC.out, HOL.out, HON.out, hst, decide_eq_true rfl] at h
                      rw [← HR.out, ← HC.out]
                      exact beginOf_ok (by omega) (by omega) h HNO.out
                    clear hst HR
                    subst e
                    go_wp2
                    go_ret2
                    exact ⟨rfl, HB4.out⟩
                  | false =>
                    have HNOK := Lib.hid (show beginOk b 2 = false by rw [HOK.out, HC.out, HIC.out, HOL.out, hst]; simp)
                    clear hst
                    go_wp2_with fail
                    go_roundw
                    case rel => exact ⟨2 + 1, by omega, by omega, by go_num, HB4.out, fun m hm1 hm2 => by
                      by_cases hmn : m < 2
                      · exact HNO.out m hm1 hmn
                      · obtain rfl : m = 2 := by omega
                        exact HNOK.out⟩
                    case measure => simp [intOf]
                · have d1 : ((on : Int) == 2) = false := by rw [beq_eq_false_iff_ne]; omega
                  have HNOK := Lib.hid (show beginOk b 2 = false by rw [HOK.out, HC.out, HIC.out, HOL.out, HON.out, decide_eq_false hn]; rfl)
                  clear hn
                  go_wp2_with fail
                  go_roundw
                  case rel => exact ⟨2 + 1, by omega, by omega, by go_num, HB3.out, fun m hm1 hm2 => by
                    by_cases hmn : m < 2
                    · exact HNO.out m hm1 hmn
                    · obtain rfl : m = 2 := by omega
                      exact HNOK.out⟩
                  case measure => simp [intOf]
        ·
          have HCF := Lib.hid (show ((cpFirst b 3 : Nat) : Int) = (x0.toNat : Int) % 16 by obtain ⟨xs, e⟩ := HBC.out; rw [e]; rfl)
          clear hn1 hn5 hn4 hnl
          go_wp2_with fail
          go_region
          go_wp2_with fail
          go_loopw [5, 6] (fun cx ix wi => ∃ i : Nat, 1 ≤ i ∧ i ≤ 3 ∧ ix = .int .i64 (i : Int) ∧ cx = .int .i64 ((cpTo b 3 i : Nat) : Int) ∧ Below w.heap.size w wi) (fun _ ix _ => 3 - (intOf ix).toNat)
          case atStart => exact ⟨1, by omega, by omega, by go_num, by rw [cpTo_one, HCF.out], by have h := HBE.out; have hs := h.size; exact (by repeat (first | (with_reducible exact Below.refl _ _) | (with_reducible exact Below.refl _ _) | (with_reducible refine Below.setCell ?_ (by first | omega | (simp; done) | (simp; omega)) _) | (with_reducible refine Below.alloc ?_ (by first | omega | (simp; done) | (simp; omega)) _) | (with_reducible refine Below.drew ?_) | (with_reducible refine below_drewN ?_ _) | (with_reducible refine Below.trans ?_ (h.mono (by first | omega | (simp; done) | (simp; omega))))))⟩
          case round =>
            obtain ⟨i, hi1, hiN, rfl, rfl, hbi⟩ := hrel
            have HBI := Lib.hid hbi
            clear hbi
            by_cases hin : i < 3
            · obtain ⟨x, hx⟩ : ∃ x, b[i]? = some x := ⟨_, List.getElem?_eq_getElem (by have := HL.out; have := HNL.out; omega)⟩
              obtain ⟨bb2, bo2, e2, hbb2, hbcell2⟩ := (HB.out.ext HBI.out).hat i x hx
              cases e2
              have hlt := cpTo_lt b 3 i hi1 (by omega) (by have := HL.out; have := HNL.out; omega)
              have hs := cpTo_succ (n := 3) hi1 hx
              obtain ⟨c, hc⟩ : ∃ c, cpTo b 3 i = c := ⟨_, rfl⟩
              rw [hc] at hlt hs ⊢
              have hx8' := x.toNat_lt
              have HS := Lib.hid hs
              have HIN := Lib.hid hin
              have k1 : (i : Int) < 3 := by omega
              have k2 : (i : Int) < (bl : Int) := by have := HNL.out; omega
              clear hx hs hc hin hiN
              go_wp2_with fail
              go_roundw
              case rel => exact ⟨i + 1, by omega, HIN.out, by go_num, by rw [HS.out]; simp, by have h := HBI.out; exact (by repeat (first | (with_reducible exact Below.refl _ _) | (with_reducible exact Below.refl _ _) | (with_reducible refine Below.setCell ?_ (by first | omega | (simp; done) | (simp; omega)) _) | (with_reducible refine Below.alloc ?_ (by first | omega | (simp; done) | (simp; omega)) _) | (with_reducible refine Below.drew ?_) | (with_reducible refine below_drewN ?_ _) | (with_reducible refine Below.trans ?_ (h.mono (by first | omega | (simp; done) | (simp; omega))))))⟩
              case measure => have := HIN.out; simp [intOf]; omega
            · obtain rfl : i = 3 := by omega
              have hlt := cpTo_lt b 3 3 (by omega) (by omega) (by have := HL.out; have := HNL.out; omega)
              obtain ⟨c, hc⟩ : ∃ c, cpAt b 3 = c := ⟨_, rfl⟩
              have hc' : cpTo b 3 3 = c := hc
              rw [hc'] at hlt ⊢
              have HC := Lib.hid hc
              clear hin hi1 hiN hc hc'
              go_wp2_with fail
              refine (Try_rIs c wr).mono ?_; rintro e w2 ⟨rfl, hb2⟩
              have HB2 := Lib.hid (HBI.out.trans (hb2.mono HBI.out.size))
              have HOK := Lib.hid (beginOk_cases (b := b) (n := 3) (by have := HL.out; have := HNL.out; omega))
              clear hb2
              cases hic : isCp c with
              | false =>
                have HNOK := Lib.hid (show beginOk b 3 = false by rw [HOK.out, HC.out, hic]; rfl)
                clear hic
                go_wp2_with fail
                go_roundw
                case rel => exact ⟨3 + 1, by omega, by omega, by go_num, HB2.out, fun m hm1 hm2 => by
                  by_cases hmn : m < 3
                  · exact HNO.out m hm1 hmn
                  · obtain rfl : m = 3 := by omega
                    exact HNOK.out⟩
                case measure => simp [intOf]
              | true =>
                have hcl : c ≤ 1114111 := by
                  unfold isCp at hic
                  rw [Bool.and_eq_true, decide_eq_true_eq] at hic
                  exact hic.1
                have HIC := Lib.hid hic
                clear hic
                go_wp2_with fail
                refine (Try_rBytes c w2 hcl).mono ?_; rintro e w3 ⟨⟨p, hp, rfl, hob⟩, hb3⟩
                obtain ⟨ol, hol⟩ : ∃ l, cpBytes c = l := ⟨_, rfl⟩
                rw [hol] at hob ⊢
                obtain ⟨on, hon⟩ : ∃ n, ol.length = n := ⟨_, rfl⟩
                rw [hon] at hob ⊢
                have HOB := Lib.hid hob
                have HB3 := Lib.hid (HB2.out.trans (hb3.mono HB2.out.size))
                have HOL := Lib.hid hol
                have HON := Lib.hid hon
                clear hob hb3 hol hon hcl
                by_cases hn : on = 3
                · subst hn
                  go_wp2_with fail
                  have hSt := Try_rStarts (some ⟨bb, bo, none⟩) (some ⟨p, 0, none⟩) bl bc 3 3 b ol w3 (HB.out.ext HB3.out) HOB.out
                  with_reducible refine hSt.mono ?_
                  rintro e w4 ⟨rfl, hb4⟩
                  have HB4 := Lib.hid (HB3.out.trans (hb4.mono HB3.out.size))
                  clear hb4
                  cases hst : startsB b ol with
                  | true =>
                    have e : r = (c, 3) := by
                      have h := HOK.out
                      rw [HC.out, HIC.out, HOL.out, HON.out, hst, decide_eq_true rfl] at h
                      rw [← HR.out, ← HC.out]
                      exact beginOf_ok (by omega) (by omega) h HNO.out
                    clear hst HR
                    subst e
                    go_wp2
                    go_ret2
                    exact ⟨rfl, HB4.out⟩
                  | false =>
                    have HNOK := Lib.hid (show beginOk b 3 = false by rw [HOK.out, HC.out, HIC.out, HOL.out, hst]; simp)
                    clear hst
                    go_wp2_with fail
                    go_roundw
                    case rel => exact ⟨3 + 1, by omega, by omega, by go_num, HB4.out, fun m hm1 hm2 => by
                      by_cases hmn : m < 3
                      · exact HNO.out m hm1 hmn
                      · obtain rfl : m = 3 := by omega
                        exact HNOK.out⟩
                    case measure => simp [intOf]
                · have d1 : ((on : Int) == 3) = false := by rw [beq_eq_false_iff_ne]; omega
                  have HNOK := Lib.hid (show beginOk b 3 = false by rw [HOK.out, HC.out, HIC.out, HOL.out, HON.out, decide_eq_false hn]; rfl)
                  clear hn
                  go_wp2_with fail
                  go_roundw
                  case rel => exact ⟨3 + 1, by omega, by omega, by go_num, HB3.out, fun m hm1 hm2 => by
                    by_cases hmn : m < 3
                    · exact HNO.out m hm1 hmn
                    · obtain rfl : m = 3 := by omega
                      exact HNOK.out⟩
                  case measure => simp [intOf]
        ·
          have HCF := Lib.hid (show ((cpFirst b 4 : Nat) : Int) = (x0.toNat : Int) % 8 by obtain ⟨xs, e⟩ := HBC.out; rw [e]; rfl)
          clear hn1 hn5 hn4 hnl
          go_wp2_with fail
          go_region
          go_wp2_with fail
          go_loopw [5, 6] (fun cx ix wi => ∃ i : Nat, 1 ≤ i ∧ i ≤ 4 ∧ ix = .int .i64 (i : Int) ∧ cx = .int .i64 ((cpTo b 4 i : Nat) : Int) ∧ Below w.heap.size w wi) (fun _ ix _ => 4 - (intOf ix).toNat)
          case atStart => exact ⟨1, by omega, by omega, by go_num, by rw [cpTo_one, HCF.out], by have h := HBE.out; have hs := h.size; exact (by repeat (first | (with_reducible exact Below.refl _ _) | (with_reducible exact Below.refl _ _) | (with_reducible refine Below.setCell ?_ (by first | omega | (simp; done) | (simp; omega)) _) | (with_reducible refine Below.alloc ?_ (by first | omega | (simp; done) | (simp; omega)) _) | (with_reducible refine Below.drew ?_) | (with_reducible refine below_drewN ?_ _) | (with_reducible refine Below.trans ?_ (h.mono (by first | omega | (simp; done) | (simp; omega))))))⟩
          case round =>
            obtain ⟨i, hi1, hiN, rfl, rfl, hbi⟩ := hrel
            have HBI := Lib.hid hbi
            clear hbi
            by_cases hin : i < 4
            · obtain ⟨x, hx⟩ : ∃ x, b[i]? = some x := ⟨_, List.getElem?_eq_getElem (by have := HL.out; have := HNL.out; omega)⟩
              obtain ⟨bb2, bo2, e2, hbb2, hbcell2⟩ := (HB.out.ext HBI.out).hat i x hx
              cases e2
              have hlt := cpTo_lt b 4 i hi1 (by omega) (by have := HL.out; have := HNL.out; omega)
              have hs := cpTo_succ (n := 4) hi1 hx
              obtain ⟨c, hc⟩ : ∃ c, cpTo b 4 i = c := ⟨_, rfl⟩
              rw [hc] at hlt hs ⊢
              have hx8' := x.toNat_lt
              have HS := Lib.hid hs
              have HIN := Lib.hid hin
              have k1 : (i : Int) < 4 := by omega
              have k2 : (i : Int) < (bl : Int) := by have := HNL.out; omega
              clear hx hs hc hin hiN
              go_wp2_with fail
              go_roundw
              case rel => exact ⟨i + 1, by omega, HIN.out, by go_num, by rw [HS.out]; simp, by have h := HBI.out; exact (by repeat (first | (with_reducible exact Below.refl _ _) | (with_reducible exact Below.refl _ _) | (with_reducible refine Below.setCell ?_ (by first | omega | (simp; done) | (simp; omega)) _) | (with_reducible refine Below.alloc ?_ (by first | omega | (simp; done) | (simp; omega)) _) | (with_reducible refine Below.drew ?_) | (with_reducible refine below_drewN ?_ _) | (with_reducible refine Below.trans ?_ (h.mono (by first | omega | (simp; done) | (simp; omega))))))⟩
              case measure => have := HIN.out; simp [intOf]; omega
            · obtain rfl : i = 4 := by omega
              have hlt := cpTo_lt b 4 4 (by omega) (by omega) (by have := HL.out; have := HNL.out; omega)
              obtain ⟨c, hc⟩ : ∃ c, cpAt b 4 = c := ⟨_, rfl⟩
              have hc' : cpTo b 4 4 = c := hc
              rw [hc'] at hlt ⊢
              have HC := Lib.hid hc
              clear hin hi1 hiN hc hc'
              go_wp2_with fail
              refine (Try_rIs c wr).mono ?_; rintro e w2 ⟨rfl, hb2⟩
              have HB2 := Lib.hid (HBI.out.trans (hb2.mono HBI.out.size))
              have HOK := Lib.hid (beginOk_cases (b := b) (n := 4) (by have := HL.out; have := HNL.out; omega))
              clear hb2
              cases hic : isCp c with
              | false =>
                have HNOK := Lib.hid (show beginOk b 4 = false by rw [HOK.out, HC.out, hic]; rfl)
                clear hic
                go_wp2_with fail
                go_roundw
                case rel => exact ⟨4 + 1, by omega, by omega, by go_num, HB2.out, fun m hm1 hm2 => by
                  by_cases hmn : m < 4
                  · exact HNO.out m hm1 hmn
                  · obtain rfl : m = 4 := by omega
                    exact HNOK.out⟩
                case measure => simp [intOf]
              | true =>
                have hcl : c ≤ 1114111 := by
                  unfold isCp at hic
                  rw [Bool.and_eq_true, decide_eq_true_eq] at hic
                  exact hic.1
                have HIC := Lib.hid hic
                clear hic
                go_wp2_with fail
                refine (Try_rBytes c w2 hcl).mono ?_; rintro e w3 ⟨⟨p, hp, rfl, hob⟩, hb3⟩
                obtain ⟨ol, hol⟩ : ∃ l, cpBytes c = l := ⟨_, rfl⟩
                rw [hol] at hob ⊢
                obtain ⟨on, hon⟩ : ∃ n, ol.length = n := ⟨_, rfl⟩
                rw [hon] at hob ⊢
                have HOB := Lib.hid hob
                have HB3 := Lib.hid (HB2.out.trans (hb3.mono HB2.out.size))
                have HOL := Lib.hid hol
                have HON := Lib.hid hon
                clear hob hb3 hol hon hcl
                by_cases hn : on = 4
                · subst hn
                  go_wp2_with fail
                  have hSt := Try_rStarts (some ⟨bb, bo, none⟩) (some ⟨p, 0, none⟩) bl bc 4 4 b ol w3 (HB.out.ext HB3.out) HOB.out
                  with_reducible refine hSt.mono ?_
                  rintro e w4 ⟨rfl, hb4⟩
                  have HB4 := Lib.hid (HB3.out.trans (hb4.mono HB3.out.size))
                  clear hb4
                  cases hst : startsB b ol with
                  | true =>
                    have e : r = (c, 4) := by
                      have h := HOK.out
                      rw [HC.out, HIC.out, HOL.out, HON.out, hst, decide_eq_true rfl] at h
                      rw [← HR.out, ← HC.out]
                      exact beginOf_ok (by omega) (by omega) h HNO.out
                    clear hst HR
                    subst e
                    go_wp2
                    go_ret2
                    exact ⟨rfl, HB4.out⟩
                  | false =>
                    have HNOK := Lib.hid (show beginOk b 4 = false by rw [HOK.out, HC.out, HIC.out, HOL.out, hst]; simp)
                    clear hst
                    go_wp2_with fail
                    go_roundw
                    case rel => exact ⟨4 + 1, by omega, by omega, by go_num, HB4.out, fun m hm1 hm2 => by
                      by_cases hmn : m < 4
                      · exact HNO.out m hm1 hmn
                      · obtain rfl : m = 4 := by omega
                        exact HNOK.out⟩
                    case measure => simp [intOf]
                · have d1 : ((on : Int) == 4) = false := by rw [beq_eq_false_iff_ne]; omega
                  have HNOK := Lib.hid (show beginOk b 4 = false by rw [HOK.out, HC.out, HIC.out, HOL.out, HON.out, decide_eq_false hn]; rfl)
                  clear hn
                  go_wp2_with fail
                  go_roundw
                  case rel => exact ⟨4 + 1, by omega, by omega, by go_num, HB3.out, fun m hm1 hm2 => by
                    by_cases hmn : m < 4
                    · exact HNO.out m hm1 hmn
                    · obtain rfl : m = 4 := by omega
                      exact HNOK.out⟩
                  case measure => simp [intOf]
      · have g1 : (n : Int) ≤ 4 := by omega
        have g2 : ¬ (n : Int) ≤ (bl : Int) := by omega
        have e : r = (0, 0) := by
          rw [← HR.out]; refine beginOf_no fun m hm1 hm4 => ?_
          by_cases hmn : m < n
          · exact HNO.out m hm1 hmn
          · unfold beginOk; rw [decide_eq_false (by have := HL.out; omega)]; rfl
        clear hn4 hnl hn1 hn5
        subst e
        go_wp2
        go_ret2
        exact ⟨rfl, by have h := HBE.out; exact (by repeat (first | (with_reducible exact Below.refl _ _) | (with_reducible exact Below.refl _ _) | (with_reducible refine Below.setCell ?_ (by first | omega | (simp; done) | (simp; omega)) _) | (with_reducible refine Below.alloc ?_ (by first | omega | (simp; done) | (simp; omega)) _) | (with_reducible refine Below.drew ?_) | (with_reducible refine below_drewN ?_ _) | (with_reducible refine Below.trans ?_ (h.mono (by first | omega | (simp; done) | (simp; omega))))))⟩
    · have g1 : ¬ (n : Int) ≤ 4 := by omega
      have e : r = (0, 0) := by
        rw [← HR.out]; exact beginOf_no fun m hm1 hm4 => HNO.out m hm1 (by omega)
      clear hn4 hn1 hn5
      subst e
      go_wp2
      go_ret2
      exact ⟨rfl, by have h := HBE.out; exact (by repeat (first | (with_reducible exact Below.refl _ _) | (with_reducible exact Below.refl _ _) | (with_reducible refine Below.setCell ?_ (by first | omega | (simp; done) | (simp; omega)) _) | (with_reducible refine Below.alloc ?_ (by first | omega | (simp; done) | (simp; omega)) _) | (with_reducible refine Below.drew ?_) | (with_reducible refine below_drewN ?_ _) | (with_reducible refine Below.trans ?_ (h.mono (by first | omega | (simp; done) | (simp; omega))))))⟩
end Go.Proofs.Ytdebmifjfemcjaa
