/-
  Layer 4: Null, Int, Bool, Text, walked: the program's.
  Layer 4: the place of a key among the keys: cmp.Less, slices.BinarySearch, place, walked.
  Layer 4: a Kid by its place, walked: kid, At, Get.
  Layer 4: At and Get, walked: the program's.
  Layer 1: the code points of a right text, walked: utf.Points; layer 4: Len.
  Layer 4: how long a value is, walked: Len.
  Layer 4: what keys lead to, walked: Path.
  The law of layer 4: wakes, walked.
  The law of layer 4: wakes, walked.
-/
import Derived.Test.YtmcmknndhppljaaDoorVbK
namespace Go.Dav
set_option linter.unusedVariables false
set_option linter.unusedSimpArgs false
open Go Go.RowKit
/-- A text. -/
def textV (d : Nat) (s : ByteArray) : ValN (d + 1) := (⟨4, 0, s, [], []⟩ : ValF (ValN d))
theorem text_at (W : World) (d : Nat) {s : ByteArray} (hs : s.size ≤ 17592186044416) : ValAt W (d + 1) (.agg #[.int .i64 4, .int .i64 0, .string s, .slice none 0 0, .slice none 0 0]) (textV d s) :=
  ⟨none, 0, 0, none, 0, 0, rfl, (by constructor <;> simp [textV, ValN.to]), (by constructor <;> simp [textV, ValN.to]), hs, rfl, Nat.le_refl _, by unfold maxLen; omega, by omega, fun _ => rfl, fun i y hy => by simp [textV, ValN.to] at hy, StrsAt.nil_⟩
end Go.Dav
namespace Go.Proofs.YtmcmknndhppljaaDoor
set_option linter.unusedVariables false
set_option linter.unusedSimpArgs false
open Go.RowKit Go.Dav
attribute [local go_sem] Gives ite_val ite_val_true

theorem Tryd_vNull (w : World) : Calls Tryd.prog 29 #[] w fun e w' => e = .returned (.agg #[.int .i64 1, .int .i64 0, .string ⟨#[]⟩, .slice none 0 0, .slice none 0 0]) ∧ Below w.heap.size w w' := by
  go_enter Tryd.func29, Tryd.ntmps29
  go_wp2
  refine bodyPost_ret (v := .agg #[.int .i64 1, .int .i64 0, .string ⟨#[]⟩, .slice none 0 0, .slice none 0 0]) (by simp [results, Tryd.results29, go_sem]) rfl ⟨rfl, (by repeat (first | (with_reducible exact Below.refl _ _) | (with_reducible exact Below.refl _ _) | (with_reducible refine Below.setCell ?_ (by first | omega | (simp; done) | (simp; omega)) _) | (with_reducible refine Below.alloc ?_ (by first | omega | (simp; done) | (simp; omega)) _) | (with_reducible refine Below.drew ?_) | (with_reducible refine below_drewN ?_ _)))⟩
theorem Tryd_vInt (n : Int) (w : World) : Calls Tryd.prog 30 #[.int .i64 n] w fun e w' => e = .returned (.agg #[.int .i64 3, .int .i64 n, .string ⟨#[]⟩, .slice none 0 0, .slice none 0 0]) ∧ Below w.heap.size w w' := by
  go_enter Tryd.func30, Tryd.ntmps30
  go_wp2
  refine bodyPost_ret (v := .agg #[.int .i64 3, .int .i64 n, .string ⟨#[]⟩, .slice none 0 0, .slice none 0 0]) (by simp [results, Tryd.results30, go_sem]) rfl ⟨rfl, (by repeat (first | (with_reducible exact Below.refl _ _) | (with_reducible exact Below.refl _ _) | (with_reducible refine Below.setCell ?_ (by first | omega | (simp; done) | (simp; omega)) _) | (with_reducible refine Below.alloc ?_ (by first | omega | (simp; done) | (simp; omega)) _) | (with_reducible refine Below.drew ?_) | (with_reducible refine below_drewN ?_ _)))⟩
theorem Tryd_vBool (b : Bool) (w : World) : Calls Tryd.prog 28 #[.bool b] w fun e w' => e = .returned (.agg #[.int .i64 2, .int .i64 (if b = true then 1 else 0), .string ⟨#[]⟩, .slice none 0 0, .slice none 0 0]) ∧ Below w.heap.size w w' := by
  cases b with
  | true =>
    go_enter Tryd.func28, Tryd.ntmps28
    go_wp2
    refine bodyPost_ret (v := .agg #[.int .i64 2, .int .i64 1, .string ⟨#[]⟩, .slice none 0 0, .slice none 0 0]) (by simp [results, Tryd.results28, go_sem]) rfl ⟨rfl, (by repeat (first | (with_reducible exact Below.refl _ _) | (with_reducible exact Below.refl _ _) | (with_reducible refine Below.setCell ?_ (by first | omega | (simp; done) | (simp; omega)) _) | (with_reducible refine Below.alloc ?_ (by first | omega | (simp; done) | (simp; omega)) _) | (with_reducible refine Below.drew ?_) | (with_reducible refine below_drewN ?_ _)))⟩
  | false =>
    go_enter Tryd.func28, Tryd.ntmps28
    go_wp2
    refine bodyPost_ret (v := .agg #[.int .i64 2, .int .i64 0, .string ⟨#[]⟩, .slice none 0 0, .slice none 0 0]) (by simp [results, Tryd.results28, go_sem]) rfl ⟨rfl, (by repeat (first | (with_reducible exact Below.refl _ _) | (with_reducible exact Below.refl _ _) | (with_reducible refine Below.setCell ?_ (by first | omega | (simp; done) | (simp; omega)) _) | (with_reducible refine Below.alloc ?_ (by first | omega | (simp; done) | (simp; omega)) _) | (with_reducible refine Below.drew ?_) | (with_reducible refine below_drewN ?_ _)))⟩

set_option maxHeartbeats 2000000 in
theorem Tryd_vText (d : Nat) (s : ByteArray) (w : World) (hs : s.size ≤ 17592186044416) (hN : GlobAt w 0 [.int .i64 0, .int .i64 0] 143) :
    Calls Tryd.prog 19 #[.string s] w fun e w' => e = .returned (wholeV (rightV (d + 1) (textV d s)) (.agg #[.int .i64 4, .int .i64 0, .string s, .slice none 0 0, .slice none 0 0])) ∧ Below w.heap.size w w' := by
  obtain ⟨r, hr⟩ : ∃ r, rightV (d + 1) (textV d s) = r := ⟨_, rfl⟩
  obtain ⟨W0, hW0⟩ : ∃ W0, w.alloc (.cells #[.int .i64 0, .int .i64 0, .string ⟨#[]⟩, .slice none 0 0, .slice none 0 0] 39) = W0 := ⟨_, rfl⟩
  have bel0 : Below w.heap.size w W0 := by rw [← hW0]; exact (by repeat (first | (with_reducible exact Below.refl _ _) | (with_reducible exact Below.refl _ _) | (with_reducible refine Below.setCell ?_ (by first | omega | (simp; done) | (simp; omega)) _) | (with_reducible refine Below.alloc ?_ (by first | omega | (simp; done) | (simp; omega)) _) | (with_reducible refine Below.drew ?_) | (with_reducible refine below_drewN ?_ _)))
  have hb2 : Blk W0 w.heap.size [.int .i64 0, .int .i64 0, .string ⟨#[]⟩, .slice none 0 0, .slice none 0 0] 39 := by rw [← hW0]; exact Blk.new _ _ _
  have hc := Tryd_whole (d + 1) (textV d s) 4 0 s none 0 0 none 0 0 W0 (text_at W0 d hs) (hN.ext bel0)
  rw [hr] at hc ⊢
  have HC := Lib.hid hc
  have BEL := Lib.hid bel0
  have HB2 := Lib.hid hb2
  subst hW0
  clear hc hr hN bel0 hb2 hs
  go_enter Tryd.func19, Tryd.ntmps19
  go_wp2_with fail
  refine HC.out.mono ?_; rintro e w1 ⟨rfl, hbw⟩
  have hq2 := HB2.out.ext hbw
  have q2 := hq2.cells
  have m2 := hq2.marks
  have l2 := hq2.lt
  have HQ2 := Lib.hid hq2
  have HBW := Lib.hid (BEL.out.trans (hbw.mono BEL.out.size))
  clear hq2 hbw HC
  cases r with
  | true =>
    rw [show ∀ v, wholeV true v = .tuple #[v, .int .i64 0] from fun v => rfl]
    go_wp2
    have c4 := (HQ2.out.fiveV (.int .i64 4) (.int .i64 0) (.string s) (.slice none 0 0) (.slice none 0 0)).cells
    refine bodyPost_ret (v := .tuple #[.agg #[.int .i64 4, .int .i64 0, .string s, .slice none 0 0, .slice none 0 0], .int .i64 0]) (by simp [results, Tryd.results19, go_sem, c4]) rfl ⟨rfl, ?_⟩
    exact below_only HBW.out (Only.fiveV _ _ _ _ _ _ _) HBW.out.size (by omega)
  | false =>
    rw [show ∀ v, wholeV false v = .tuple #[.agg #[.int .i64 0, .int .i64 0, .string ⟨#[]⟩, .slice none 0 0, .slice none 0 0], .int .i64 140] from fun v => rfl]
    go_wp2
    have c4 := (HQ2.out.fiveV (.int .i64 0) (.int .i64 0) (.string ⟨#[]⟩) (.slice none 0 0) (.slice none 0 0)).cells
    refine bodyPost_ret (v := .tuple #[.agg zeroL.toArray, .int .i64 140]) (by simp [results, Tryd.results19, go_sem, c4, zeroL]) rfl ⟨rfl, ?_⟩
    exact below_only HBW.out (Only.fiveV _ _ _ _ _ _ _) HBW.out.size (by omega)
end Go.Proofs.YtmcmknndhppljaaDoor

namespace Go.Dav
set_option linter.unusedVariables false
set_option linter.unusedSimpArgs false
open Go Go.RowKit
/-- How many keys, from the first on, are below a key. -/
def lowS (l : List ByteArray) (key : ByteArray) : Nat := (l.takeWhile fun x => kless x key).length
theorem lowS_le (l : List ByteArray) (key : ByteArray) : lowS l key ≤ l.length := by unfold lowS; exact (List.takeWhile_prefix _).length_le
theorem lowS_gt : ∀ {l : List ByteArray} {key : ByteArray} {h : Nat}, h < l.length → (∀ i x, i ≤ h → l[i]? = some x → kless x key = true) → h < lowS l key
  | [], _, _, hl, _ => by simp at hl
  | y :: L, key, 0, _, ha => by
    have := ha 0 y (Nat.le_refl _) rfl
    unfold lowS; rw [List.takeWhile_cons, if_pos this]; simp
  | y :: L, key, h + 1, hl, ha => by
    have h0 := ha 0 y (by omega) rfl
    have ih := lowS_gt (l := L) (key := key) (h := h) (by simpa using hl) fun i x hi hx => ha (i + 1) x (by omega) (by simpa using hx)
    unfold lowS at ih ⊢
    rw [List.takeWhile_cons, if_pos h0]
    simp; omega
theorem lowS_low : ∀ {l : List ByteArray} {key : ByteArray} {h : Nat} {x : ByteArray}, l[h]? = some x → kless x key = false → lowS l key ≤ h
  | [], _, _, _, hx, _ => by simp at hx
  | y :: L, key, 0, x, hx, ha => by
    obtain rfl : y = x := by simpa using hx
    unfold lowS; rw [List.takeWhile_cons, ha]; simp
  | y :: L, key, h + 1, x, hx, ha => by
    have ih := lowS_low (l := L) (key := key) (h := h) (by simpa using hx) ha
    unfold lowS at ih ⊢
    rw [List.takeWhile_cons]
    split <;> simp <;> omega
/-- Is this the key at a place? -/
def isAtS (l : List ByteArray) (i : Nat) (key : ByteArray) : Bool := (((l[i]?).map fun x => x.toList == key.toList).getD false)
def RiseS (l : List ByteArray) (key : ByteArray) : Prop := ∀ (a b : Nat) (x y : ByteArray), a ≤ b → l[a]? = some x → l[b]? = some y → kless y key = true → kless x key = true
/-- What a search finds: a place; in a row that rises, the lowest that is not below the key. -/
def FoundS (l : List ByteArray) (key : ByteArray) (i : Nat) : Prop := i ≤ l.length ∧ (RiseS l key → i = lowS l key)
/-- What a search stands at. -/
def SeekS (l : List ByteArray) (key : ByteArray) (i j : Nat) : Prop := i ≤ j ∧ j ≤ l.length ∧ (RiseS l key → i ≤ lowS l key ∧ lowS l key ≤ j)
theorem SeekS.start (l : List ByteArray) (key : ByteArray) : SeekS l key 0 l.length := ⟨Nat.zero_le _, Nat.le_refl _, fun _ => ⟨Nat.zero_le _, lowS_le l key⟩⟩
theorem SeekS.up {l : List ByteArray} {key x : ByteArray} {i j h : Nat} (s : SeekS l key i j) (hi : i ≤ h) (hj : h < j) (hx : l[h]? = some x) (hb : kless x key = true) : SeekS l key (h + 1) j :=
  ⟨hj, s.2.1, fun r => ⟨lowS_gt (Nat.lt_of_lt_of_le hj s.2.1) fun a y ha hy => r a h y x ha hy hx hb, (s.2.2 r).2⟩⟩
theorem SeekS.down {l : List ByteArray} {key x : ByteArray} {i j h : Nat} (s : SeekS l key i j) (hi : i ≤ h) (hj : h < j) (hx : l[h]? = some x) (hb : kless x key = false) : SeekS l key i h :=
  ⟨hi, Nat.le_trans (Nat.le_of_lt hj) s.2.1, fun r => ⟨(s.2.2 r).1, lowS_low hx hb⟩⟩
theorem SeekS.done {l : List ByteArray} {key : ByteArray} {i j : Nat} (s : SeekS l key i j) (h : ¬ i < j) : FoundS l key i := ⟨Nat.le_trans s.1 s.2.1, fun r => by have := s.2.2 r; have := s.1; omega⟩
/-- What place tells: -1, or a place of the key; in a row that rises, -1 only if it is not there. -/
def PlacedS (l : List ByteArray) (key : ByteArray) (p : Int) : Prop := (p = -1 ∨ ∃ i : Nat, p = i ∧ isAtS l i key = true) ∧ (RiseS l key → p = if isAtS l (lowS l key) key = true then (lowS l key : Int) else -1)
end Go.Dav
namespace Go.Proofs.YtmcmknndhppljaaDoor
set_option linter.unusedVariables false
set_option linter.unusedSimpArgs false
open Go.RowKit Go.Dav
attribute [local go_sem] Gives ite_val ite_val_true

theorem Tryd_isNaN2 (a : ByteArray) (w : World) : Calls Tryd.prog 97 #[.string a] w fun e w' => e = .returned (.bool false) ∧ Below w.heap.size w w' := by
  have g : (a.toList != a.toList) = false := by simp
  go_enter Tryd.func97, Tryd.ntmps97
  go_wp2
  go_ret
  exact ⟨rfl, (by repeat (first | (with_reducible exact Below.refl _ _) | (with_reducible exact Below.refl _ _) | (with_reducible refine Below.setCell ?_ (by first | omega | (simp; done) | (simp; omega)) _) | (with_reducible refine Below.alloc ?_ (by first | omega | (simp; done) | (simp; omega)) _) | (with_reducible refine Below.drew ?_) | (with_reducible refine below_drewN ?_ _)))⟩
theorem Tryd_less (a b : ByteArray) (w : World) : Calls Tryd.prog 96 #[.string a, .string b] w fun e w' => e = .returned (.bool (kless a b)) ∧ Below w.heap.size w w' := by
  cases hab : Op.bytesLess a.toList b.toList with
  | true =>
    rw [show kless a b = true from hab]
    go_enter Tryd.func96, Tryd.ntmps96
    go_wp2_with fail
    refine (Tryd_isNaN a _).mono ?_; rintro e w1 ⟨rfl, hb1⟩
    go_wp2
    go_ret
    exact ⟨rfl, hb1⟩
  | false =>
    rw [show kless a b = false from hab]
    go_enter Tryd.func96, Tryd.ntmps96
    go_wp2_with fail
    refine (Tryd_isNaN a _).mono ?_; rintro e w1 ⟨rfl, hb1⟩
    go_wp2
    go_ret
    exact ⟨rfl, hb1⟩

set_option maxRecDepth 8000 in
set_option maxHeartbeats 4000000 in
theorem Tryd_searchS (pa : Option Addr) (pn pc : Nat) (l : List ByteArray) (key : ByteArray) (w : World) (hP : StrsAt w pa pn pc l) :
    Calls Tryd.prog 79 #[.slice pa pn pc, .string key] w fun e w' => (∃ i : Nat, FoundS l key i ∧ e = .returned (.tuple #[.int .i64 i, .bool (isAtS l i key)])) ∧ Below w.heap.size w w' := by
  have HP := Lib.hid hP
  have HL := Lib.hid hP.hlen
  have h6' : (pn : Int) ≤ 140737488355328 := by have := hP.hfew; omega
  have HN6 := Lib.hid h6'
  clear hP
  go_enter Tryd.func79, Tryd.ntmps79
  go_wp2_with fail
  go_loopw [7, 8] (fun iv jv wr => ∃ i j : Nat, iv = .int .i64 i ∧ jv = .int .i64 j ∧ SeekS l key i j ∧ Below w.heap.size w wr) (fun iv jv _ => (intOf jv).toNat - (intOf iv).toNat)
  case atStart => exact ⟨0, pn, rfl, rfl, by rw [← HL.out]; exact SeekS.start _ _, Below.refl _ _⟩
  case round =>
    obtain ⟨i, j, rfl, rfl, hs, hbel⟩ := hrel
    have HS := Lib.hid hs
    have HB := Lib.hid hbel
    have hji : i ≤ j := hs.1
    have hjn : j ≤ pn := by rw [← HL.out]; exact hs.2.1
    clear hs hbel
    by_cases hij : i < j
    · obtain ⟨h, hh⟩ : ∃ h, (i + j) / 2 = h := ⟨_, rfl⟩
      have hih : i ≤ h := by omega
      have hhj : h < j := by omega
      have e1 : ((i : Int) + (j : Int)) / 2 = (h : Int) := by omega
      obtain ⟨x, hx⟩ : ∃ x, l[h]? = some x := ⟨_, List.getElem?_eq_getElem (by rw [HL.out]; omega)⟩
      obtain ⟨b, o, rfl, hb, hcell⟩ := (HP.out.ext HB.out).hat h x hx
      have hlt : (i : Int) < (j : Int) := by omega
      have hhp : (h : Int) < (pn : Int) := by omega
      have hj6 : (j : Int) ≤ 140737488355328 := by omega
      have HHJ := Lib.hid hhj
      have HIH := Lib.hid hih
      have HX := Lib.hid hx
      obtain ⟨r, hr⟩ : ∃ r, kless x key = r := ⟨_, rfl⟩
      have HR := Lib.hid hr
      have hls := Tryd_less x key wr
      rw [hr] at hls
      have HLS := Lib.hid hls
      clear hx hij hh hr hls hhj hih
      go_wp2_with fail
      refine HLS.out.mono ?_; rintro e w1 ⟨rfl, hb1⟩
      have HW1 := Lib.hid (HB.out.trans (hb1.mono HB.out.size))
      clear hb1 HLS
      cases r with
      | true =>
        go_wp2_with fail
        go_roundw
        case rel => exact ⟨h + 1, j, by go_num, rfl, HS.out.up HIH.out HHJ.out HX.out HR.out, HW1.out⟩
        case measure => have := HIH.out; simp [intOf]; omega
      | false =>
        go_wp2_with fail
        go_roundw
        case rel => exact ⟨i, h, rfl, rfl, HS.out.down HIH.out HHJ.out HX.out HR.out, HW1.out⟩
        case measure => have := HIH.out; have := HHJ.out; simp [intOf]; omega
    · have hij' : ¬ (i : Int) < (j : Int) := by omega
      have HF := Lib.hid (HS.out.done hij)
      by_cases hjp : i < pn
      · obtain ⟨x, hx⟩ : ∃ x, l[i]? = some x := ⟨_, List.getElem?_eq_getElem (by rw [HL.out]; omega)⟩
        obtain ⟨b, o, rfl, hb, hcell⟩ := (HP.out.ext HB.out).hat i x hx
        have hhp : (i : Int) < (pn : Int) := by omega
        have hdd : decide ((i : Int) < (pn : Int)) = true := by simp; omega
        have hddn : decide (i < pn) = true := by simp; omega
        have HV := Lib.hid (show isAtS l i key = (x.toList == key.toList) by unfold isAtS; rw [hx]; rfl)
        clear hx hij hjn hji
        obtain ⟨eq, heq⟩ : ∃ b, (x.toList == key.toList) = b := ⟨_, rfl⟩
        have HEQ := Lib.hid heq
        cases eq with
        | true =>
          go_wp2
          go_ret2
          exact ⟨⟨i, HF.out, by rw [HV.out, HEQ.out]; rfl⟩, HB.out⟩
        | false =>
          go_wp2_with fail
          refine (Tryd_isNaN2 x _).mono ?_; rintro e w1 ⟨rfl, hb1⟩
          have HW1 := Lib.hid (HB.out.trans (hb1.mono HB.out.size))
          clear hb1
          go_wp2
          go_ret2
          exact ⟨⟨i, HF.out, by rw [HV.out, HEQ.out]; rfl⟩, HW1.out⟩
      · have HV := Lib.hid (show isAtS l i key = false by unfold isAtS; rw [List.getElem?_eq_none (by rw [HL.out]; omega)]; rfl)
        have hhp : ¬ (i : Int) < (pn : Int) := by omega
        have hdd : decide ((i : Int) < (pn : Int)) = false := by simp; omega
        have hddn : decide (i < pn) = false := by simp; omega
        clear hij hjn hji hjp
        go_wp2
        go_ret2
        exact ⟨⟨i, HF.out, by rw [HV.out]; rfl⟩, HB.out⟩

set_option maxHeartbeats 2000000 in
theorem Tryd_placeS (pa : Option Addr) (pn pc : Nat) (l : List ByteArray) (key : ByteArray) (w : World) (hP : StrsAt w pa pn pc l) :
    Calls Tryd.prog 61 #[.slice pa pn pc, .string key] w fun e w' => (∃ p : Int, PlacedS l key p ∧ e = .returned (.int .i64 p)) ∧ Below w.heap.size w w' := by
  have HC := Lib.hid (Tryd_searchS pa pn pc l key w hP)
  clear hP
  go_enter Tryd.func61, Tryd.ntmps61
  go_wp2_with fail
  refine HC.out.mono ?_; rintro e w1 ⟨⟨i, hf, rfl⟩, hb1⟩
  have HF := Lib.hid hf
  have HB1 := Lib.hid hb1
  obtain ⟨r, hr⟩ : ∃ r, isAtS l i key = r := ⟨_, rfl⟩
  rw [hr]
  have HR := Lib.hid hr
  clear hf hb1 HC hr
  cases r with
  | true =>
    go_wp2
    go_ret
    exact ⟨⟨i, ⟨.inr ⟨i, rfl, HR.out⟩, fun r => by rw [← HF.out.2 r, HR.out]; rfl⟩, rfl⟩, HB1.out⟩
  | false =>
    go_wp2
    go_ret
    exact ⟨⟨-1, ⟨.inl rfl, fun r => by rw [← HF.out.2 r, HR.out]; rfl⟩, rfl⟩, HB1.out⟩
end Go.Proofs.YtmcmknndhppljaaDoor

namespace Go.Dav
set_option linter.unusedVariables false
set_option linter.unusedSimpArgs false
open Go Go.RowKit
theorem alone_keysTo {K : Type} {x : ValF K} (h : aloneB x = true) : keysTo x.keys x.keys.length = true := by
  unfold aloneB at h; rw [Bool.and_eq_true] at h; exact h.1
theorem right_alone {d : Nat} {x : ValN (d + 1)} (h : rightV (d + 1) x = true) : aloneB x.to = true := (good_alone (right_good h)).1
theorem kless_trans {a b c : ByteArray} (h : kless a b = true) (k : kless b c = true) : kless a c = true := by rw [kless_iff] at *; exact List.lt_trans h k
theorem kless_irr {a b : ByteArray} (h : a.toList = b.toList) : kless a b = false := by
  rw [← Bool.not_eq_true, kless_iff, h]; exact List.lt_irrefl _
theorem keys_step {l : List ByteArray} (h : keysTo l l.length = true) {i : Nat} {x y : ByteArray} (hx : l[i]? = some x) (hy : l[i + 1]? = some y) : kless x y = true := by
  unfold keysTo at h
  rw [List.all_eq_true] at h
  have := h (i + 1) (List.mem_range.2 (List.getElem?_eq_some_iff.1 hy).1)
  simp only [Nat.add_sub_cancel, List.getD_eq_getElem?_getD, hx, hy, Option.getD_some, Bool.and_eq_true, Bool.or_eq_true, decide_eq_true_eq] at this
  exact this.2.resolve_left (by omega)
theorem keys_less {l : List ByteArray} (h : keysTo l l.length = true) {i : Nat} {x : ByteArray} (hx : l[i]? = some x) : ∀ (k : Nat) (y : ByteArray), l[i + 1 + k]? = some y → kless x y = true
  | 0, y, hy => keys_step h hx hy
  | k + 1, y, hy => by
    obtain ⟨z, hz⟩ : ∃ z, l[i + 1 + k]? = some z := ⟨_, List.getElem?_eq_getElem (by have := (List.getElem?_eq_some_iff.1 hy).1; omega)⟩
    exact kless_trans (keys_less h hx k z hz) (keys_step h hz hy)
theorem keys_lt {l : List ByteArray} (h : keysTo l l.length = true) {i j : Nat} {x y : ByteArray} (hij : i < j) (hx : l[i]? = some x) (hy : l[j]? = some y) : kless x y = true :=
  keys_less h hx (j - i - 1) y (by rw [show i + 1 + (j - i - 1) = j by omega]; exact hy)
theorem keys_rise {l : List ByteArray} (h : keysTo l l.length = true) (key : ByteArray) : RiseS l key := fun a b x y hab hx hy hb => by
  rcases Nat.lt_or_ge a b with hlt | hge
  · exact kless_trans (keys_lt h hlt hx hy) hb
  · obtain rfl : a = b := by omega
    rw [hx] at hy; cases hy; exact hb
theorem isAtS_some {l : List ByteArray} {i : Nat} {key : ByteArray} (h : isAtS l i key = true) : ∃ x, l[i]? = some x ∧ x.toList = key.toList := by
  unfold isAtS at h
  cases hx : l[i]? with
  | none => rw [hx] at h; simp at h
  | some x => rw [hx] at h; exact ⟨x, rfl, by simpa using h⟩
theorem keys_at {l : List ByteArray} (h : keysTo l l.length = true) {i : Nat} {key : ByteArray} (hi : isAtS l i key = true) : i = lowS l key := by
  obtain ⟨x, hx, he⟩ := isAtS_some hi
  have h1 : lowS l key ≤ i := lowS_low hx (kless_irr he)
  have hlt := (List.getElem?_eq_some_iff.1 hx).1
  rcases Nat.eq_zero_or_pos i with h0 | h0
  · omega
  · have := lowS_gt (l := l) (key := key) (h := i - 1) (by omega) fun a y ha hy => by
      have := keys_lt h (show a < i by omega) hy hx
      rw [kless_iff] at this ⊢
      rwa [he] at this
    omega
/-- A Kid of a value of a kind, if that may be, and has it. -/
def kidV (d : Nat) (x : ValN (d + 1)) (kd i : Int) : Option (ValN d) := if x.to.kind = kd ∧ 0 ≤ i ∧ rightV (d + 1) x = true then x.to.kids[i.toNat]? else none
/-- What an object has at a key. -/
def getV (d : Nat) (x : ValN (d + 1)) (key : ByteArray) : Option (ValN d) := if x.to.kind = 6 ∧ rightV (d + 1) x = true ∧ isAtS x.to.keys (lowS x.to.keys key) key = true then x.to.kids[lowS x.to.keys key]? else none
theorem kid_get {d : Nat} {x : ValN (d + 1)} {key : ByteArray} {p : Int} (h : PlacedS x.to.keys key p) : kidV d x 6 p = getV d x key := by
  unfold kidV getV
  by_cases hr : rightV (d + 1) x = true
  · have hp := h.2 (keys_rise (alone_keysTo (right_alone hr)) key)
    by_cases hk : x.to.kind = 6
    · by_cases ha : isAtS x.to.keys (lowS x.to.keys key) key = true
      · rw [if_pos ha] at hp
        rw [if_pos ⟨hk, by omega, hr⟩, if_pos ⟨hk, hr, ha⟩, hp]; rfl
      · rw [if_neg ha] at hp
        rw [if_neg (fun hh => by have := hh.2.1; omega), if_neg (fun hh => ha hh.2.2)]
    · rw [if_neg (fun hh => hk hh.1), if_neg (fun hh => hk hh.1)]
  · rw [if_neg (fun hh => hr hh.2.2), if_neg (fun hh => hr hh.2.1)]
/-- What is told: a value, or nothing. -/
def ToldO (d : Nat) (r : Option (ValN d)) (v : Value) (W : World) : Prop := match r with
  | none => v = .tuple #[.agg zeroL.toArray, .bool false]
  | some y => ∃ u, v = .tuple #[u, .bool true] ∧ ValAt W d u y
theorem ToldO.ext {d : Nat} {r : Option (ValN d)} {v : Value} {W W' : World} (h : ToldO d r v W) (hb : Below W.heap.size W W') : ToldO d r v W' := by
  cases r with
  | none => exact h
  | some y => obtain ⟨u, h1, h2⟩ := h; exact ⟨u, h1, ValAt.ext hb d h2⟩
end Go.Dav
namespace Go.Proofs.YtmcmknndhppljaaDoor
set_option linter.unusedVariables false
set_option linter.unusedSimpArgs false
open Go.RowKit Go.Dav
attribute [local go_sem] Gives ite_val ite_val_true

set_option maxRecDepth 8000 in
set_option maxHeartbeats 4000000 in
theorem Tryd_kid (d : Nat) (x : ValN (d + 1)) (v : Value) (kd i : Int) (w0 w : World) (hv : ValAt w0 (d + 1) v x) (hw0 : Below w0.heap.size w0 w) (hN : GlobAt w 0 [.int .i64 0, .int .i64 0] 143) :
    Calls Tryd.prog 60 #[v, .int .i64 kd, .int .i64 i] w fun e w' => (∃ u, e = .returned u ∧ ToldO d (kidV d x kd i) u w0) ∧ Below w.heap.size w w' := by
  obtain ⟨ka, kl, kc, qa, ql, qc, h⟩ := hv
  obtain ⟨kind, n, s, kids, keys⟩ := x
  obtain ⟨rfl⟩ : v = .agg #[.int .i64 kind, .int .i64 n, .string s, .slice ka kl kc, .slice qa ql qc] := h.val
  have hx : ValAt w0 (d + 1) (.agg #[.int .i64 kind, .int .i64 n, .string s, .slice ka kl kc, .slice qa ql qc]) (⟨kind, n, s, kids, keys⟩ : ValF (ValN d)) := ⟨ka, kl, kc, qa, ql, qc, h⟩
  obtain ⟨W0, hW0⟩ : ∃ W0, (w.alloc (.cells #[.int .i64 kind, .int .i64 n, .string s, .slice ka kl kc, .slice qa ql qc] 39)).alloc (.cells #[.int .i64 0, .int .i64 0, .string ⟨#[]⟩, .slice none 0 0, .slice none 0 0] 39) = W0 := ⟨_, rfl⟩
  have bel0 : Below w.heap.size w W0 := by rw [← hW0]; exact (by repeat (first | (with_reducible exact Below.refl _ _) | (with_reducible exact Below.refl _ _) | (with_reducible refine Below.setCell ?_ (by first | omega | (simp; done) | (simp; omega)) _) | (with_reducible refine Below.alloc ?_ (by first | omega | (simp; done) | (simp; omega)) _) | (with_reducible refine Below.drew ?_) | (with_reducible refine below_drewN ?_ _)))
  have hb1 : Blk W0 w.heap.size [.int .i64 kind, .int .i64 n, .string s, .slice ka kl kc, .slice qa ql qc] 39 := by rw [← hW0]; exact (Blk.new _ _ _).alloc _
  have hb2 : Blk W0 (w.heap.size + 1) [.int .i64 0, .int .i64 0, .string ⟨#[]⟩, .slice none 0 0, .slice none 0 0] 39 := by rw [← hW0]; exact Blk.new' _ _ _ (by simp)
  obtain ⟨r, hr⟩ : ∃ r, rightV (d + 1) (⟨kind, n, s, kids, keys⟩ : ValF (ValN d)) = r := ⟨_, rfl⟩
  have hc := Tryd_right (d + 1) _ _ W0 (ValAt.ext (hw0.trans (bel0.mono hw0.size)) _ hx) (hN.ext bel0)
  rw [hr] at hc
  have HC := Lib.hid hc
  have HR := Lib.hid hr
  have HK := Lib.hid h.kidsAt
  have hlen : kids.length = kl := h.hlen
  have HLEN := Lib.hid hlen
  have BEL := Lib.hid bel0
  have HW0 := Lib.hid hw0
  have HB1 := Lib.hid hb1
  have HB2 := Lib.hid hb2
  have hki : kidV d (⟨kind, n, s, kids, keys⟩ : ValF (ValN d)) kd i = if kind = kd ∧ 0 ≤ i ∧ r = true then kids[i.toNat]? else none := by unfold kidV; rw [hr]; rfl
  obtain ⟨ro, hro⟩ : ∃ ro, (if kind = kd ∧ 0 ≤ i ∧ r = true then kids[i.toNat]? else none) = ro := ⟨_, rfl⟩
  rw [hki, hro]
  have HRO := Lib.hid hro
  subst hW0
  clear hc hr hN bel0 hb1 hb2 hx h hki hro hw0
  by_cases hk : kind = kd
  · subst hk
    by_cases h0 : i < 0
    · have d0 : decide (i < 0) = true := decide_eq_true h0
      have HNO := Lib.hid (show ro = none from by rw [← HRO.out, if_neg (fun hh => by have := hh.2.1; omega)])
      clear hlen
      go_enter Tryd.func60, Tryd.ntmps60
      go_wp2
      refine bodyPost_ret (v := .tuple #[.agg zeroL.toArray, .bool false]) (by simp [results, Tryd.results60, go_sem, zeroL]) rfl ⟨⟨_, rfl, by rw [HNO.out]; rfl⟩, (by repeat (first | (with_reducible exact Below.refl _ _) | (with_reducible exact Below.refl _ _) | (with_reducible refine Below.setCell ?_ (by first | omega | (simp; done) | (simp; omega)) _) | (with_reducible refine Below.alloc ?_ (by first | omega | (simp; done) | (simp; omega)) _) | (with_reducible refine Below.drew ?_) | (with_reducible refine below_drewN ?_ _)))⟩
    · by_cases hl : i < (kl : Int)
      · obtain ⟨j, rfl⟩ : ∃ j : Nat, i = j := ⟨i.toNat, by omega⟩
        have d0 : decide ((j : Int) < 0) = false := decide_eq_false h0
        have d1 : decide ((j : Int) ≥ (kl : Int)) = false := decide_eq_false (by omega)
        have d2 : decide (kl ≤ j) = false := decide_eq_false (by omega)
        have g2 : ¬ kl ≤ j := by omega
        have g3 : ¬ (kl : Int) ≤ (j : Int) := by omega
        cases r with
        | true =>
          obtain ⟨y, hy⟩ : ∃ y, kids[j]? = some y := ⟨_, List.getElem?_eq_getElem (by omega)⟩
          have HY := Lib.hid hy
          have HYO := Lib.hid (show ro = some y from by rw [← HRO.out, if_pos ⟨rfl, by omega, rfl⟩]; exact hy)
          clear hlen hy
          go_enter Tryd.func60, Tryd.ntmps60
          go_wp2_with fail
          refine HC.out.mono ?_; rintro e w1 ⟨rfl, hbw⟩
          obtain ⟨b, o, k', n', s', a1, l1, c1, a2, l2, c2, rfl, hb, y0, y1, y2, y3, y4, hval⟩ := HK.out.get HY.out
          have hbb := HW0.out.trans ((BEL.out.trans (hbw.mono BEL.out.size)).mono HW0.out.size)
          have x0 := (hbb.cell (p := ⟨b, o + j * 5, none⟩) hb).trans y0
          have x1 := (hbb.cell (p := ⟨b, o + j * 5 + 1, none⟩) hb).trans y1
          have x2 := (hbb.cell (p := ⟨b, o + j * 5 + 2, none⟩) hb).trans y2
          have x3 := (hbb.cell (p := ⟨b, o + j * 5 + 3, none⟩) hb).trans y3
          have x4 := (hbb.cell (p := ⟨b, o + j * 5 + 4, none⟩) hb).trans y4
          have hq1 := HB1.out.ext hbw
          have hq2 := HB2.out.ext hbw
          have q1 := hq1.cells
          have l1' := hq1.lt
          have q2 := hq2.cells
          have m2 := hq2.marks
          have l2' := hq2.lt
          have HQ2 := Lib.hid hq2
          have HBW := Lib.hid (BEL.out.trans (hbw.mono BEL.out.size))
          have HVAL := Lib.hid hval
          clear hq1 hq2 hbw HC hval hbb y0 y1 y2 y3 y4
          go_wp2
          have c4 := (HQ2.out.fiveV (.int .i64 k') (.int .i64 n') (.string s') (.slice a1 l1 c1) (.slice a2 l2 c2)).cells
          refine bodyPost_ret (v := .tuple #[.agg #[.int .i64 k', .int .i64 n', .string s', .slice a1 l1 c1, .slice a2 l2 c2], .bool true]) (by simp [results, Tryd.results60, go_sem, c4]) rfl ⟨⟨_, rfl, ?_⟩, ?_⟩
          · rw [HYO.out]
            exact ⟨_, rfl, HVAL.out⟩
          exact below_only HBW.out (Only.fiveV _ _ _ _ _ _ _) HBW.out.size (by omega)
        | false =>
          have HNO := Lib.hid (show ro = none from by rw [← HRO.out, if_neg (fun hh => by cases hh.2.2)])
          clear hlen
          go_enter Tryd.func60, Tryd.ntmps60
          go_wp2_with fail
          refine HC.out.mono ?_; rintro e w1 ⟨rfl, hbw⟩
          have hq2 := HB2.out.ext hbw
          have q2 := hq2.cells
          have m2 := hq2.marks
          have l2' := hq2.lt
          have HQ2 := Lib.hid hq2
          have HBW := Lib.hid (BEL.out.trans (hbw.mono BEL.out.size))
          clear hq2 hbw HC
          go_wp2
          have c4 := (HQ2.out.fiveV (.int .i64 0) (.int .i64 0) (.string ⟨#[]⟩) (.slice none 0 0) (.slice none 0 0)).cells
          refine bodyPost_ret (v := .tuple #[.agg zeroL.toArray, .bool false]) (by simp [results, Tryd.results60, go_sem, c4, zeroL]) rfl ⟨⟨_, rfl, by rw [HNO.out]; rfl⟩, ?_⟩
          exact below_only HBW.out (Only.fiveV _ _ _ _ _ _ _) HBW.out.size (by omega)
      · have d0 : decide (i < 0) = false := decide_eq_false h0
        have d1 : decide (i ≥ (kl : Int)) = true := decide_eq_true (by omega)
        have d2 : decide ((kl : Int) ≤ i) = true := decide_eq_true (by omega)
        have HNO := Lib.hid (show ro = none from by rw [← HRO.out, show kids[i.toNat]? = none from List.getElem?_eq_none (by omega)]; split <;> rfl)
        clear hlen
        go_enter Tryd.func60, Tryd.ntmps60
        go_wp2
        refine bodyPost_ret (v := .tuple #[.agg zeroL.toArray, .bool false]) (by simp [results, Tryd.results60, go_sem, zeroL]) rfl ⟨⟨_, rfl, by rw [HNO.out]; rfl⟩, (by repeat (first | (with_reducible exact Below.refl _ _) | (with_reducible exact Below.refl _ _) | (with_reducible refine Below.setCell ?_ (by first | omega | (simp; done) | (simp; omega)) _) | (with_reducible refine Below.alloc ?_ (by first | omega | (simp; done) | (simp; omega)) _) | (with_reducible refine Below.drew ?_) | (with_reducible refine below_drewN ?_ _)))⟩
  · have d1 : (kind == kd) = false := by rw [beq_eq_false_iff_ne]; exact hk
    have d2 : (kind != kd) = true := by rw [bne_iff_ne]; exact hk
    have HNO := Lib.hid (show ro = none from by rw [← HRO.out, if_neg (fun hh => hk hh.1)])
    clear hlen
    go_enter Tryd.func60, Tryd.ntmps60
    go_wp2
    refine bodyPost_ret (v := .tuple #[.agg zeroL.toArray, .bool false]) (by simp [results, Tryd.results60, go_sem, zeroL]) rfl ⟨⟨_, rfl, by rw [HNO.out]; rfl⟩, (by repeat (first | (with_reducible exact Below.refl _ _) | (with_reducible exact Below.refl _ _) | (with_reducible refine Below.setCell ?_ (by first | omega | (simp; done) | (simp; omega)) _) | (with_reducible refine Below.alloc ?_ (by first | omega | (simp; done) | (simp; omega)) _) | (with_reducible refine Below.drew ?_) | (with_reducible refine below_drewN ?_ _)))⟩
end Go.Proofs.YtmcmknndhppljaaDoor

namespace Go.Dav
set_option linter.unusedVariables false
set_option linter.unusedSimpArgs false
open Go Go.RowKit
/-- The value that is told. -/
def ToldFst (d : Nat) (r : Option (ValN d)) (v : Value) (W : World) : Prop := match r with
  | none => v = .agg zeroL.toArray
  | some y => ValAt W d v y
theorem ToldFst.later {d : Nat} {r : Option (ValN d)} : ∀ v W W', ToldFst d r v W → Below W.heap.size W W' → ToldFst d r v W' := fun v W W' h hb => by
  cases r with
  | none => exact h
  | some y => exact ValAt.ext hb d h
theorem ToldO.later {d : Nat} {r : Option (ValN d)} : ∀ v W W', ToldO d r v W → Below W.heap.size W W' → ToldO d r v W' := fun _ _ _ h hb => h.ext hb
theorem ToldO.parts {d : Nat} {r : Option (ValN d)} {u : Value} {W : World} (h : ToldO d r u W) : ∃ a, u = .tuple #[a, .bool r.isSome] ∧ ToldFst d r a W := by
  cases r with
  | none => exact ⟨_, h, rfl⟩
  | some y => obtain ⟨u, h1, h2⟩ := h; exact ⟨u, h1, h2⟩
theorem ToldFst.agg {d : Nat} {r : Option (ValN d)} {u : Value} {W : World} (h : ToldFst d r u W) : ∃ k n s a1 l1 c1 a2 l2 c2, u = .agg #[.int .i64 k, .int .i64 n, .string s, .slice a1 l1 c1, .slice a2 l2 c2] := by
  cases r with
  | none => exact ⟨_, _, _, _, _, _, _, _, _, h⟩
  | some y => exact ValAt.agg h
theorem ToldFst.told {d : Nat} {r : Option (ValN d)} {u : Value} {W : World} (h : ToldFst d r u W) : ToldO d r (.tuple #[u, .bool r.isSome]) W := by
  cases r with
  | none => rw [show u = _ from h]; exact rfl
  | some y => exact ⟨u, rfl, h⟩
end Go.Dav
namespace Go.Proofs.YtmcmknndhppljaaDoor
set_option linter.unusedVariables false
set_option linter.unusedSimpArgs false
open Go.RowKit Go.Dav
attribute [local go_sem] Gives ite_val ite_val_true

set_option maxRecDepth 8000 in
set_option maxHeartbeats 4000000 in
theorem Tryd_At (d : Nat) (x : ValN (d + 1)) (v : Value) (i : Int) (w0 w : World) (hv : ValAt w0 (d + 1) v x) (hw0 : Below w0.heap.size w0 w) (hN : GlobAt w 0 [.int .i64 0, .int .i64 0] 143) :
    Calls Tryd.prog 33 #[v, .int .i64 i] w fun e w' => (∃ u, e = .returned u ∧ ToldO d (kidV d x 5 i) u w0) ∧ Below w.heap.size w w' := by
  obtain ⟨kind, n, s, ka, kl, kc, qa, ql, qc, rfl⟩ := hv.agg
  obtain ⟨W0, hW0⟩ : ∃ W0, (w.alloc (.cells #[.int .i64 kind, .int .i64 n, .string s, .slice ka kl kc, .slice qa ql qc] 39)).alloc (.cells #[.int .i64 0, .int .i64 0, .string ⟨#[]⟩, .slice none 0 0, .slice none 0 0] 39) = W0 := ⟨_, rfl⟩
  have bel0 : Below w.heap.size w W0 := by rw [← hW0]; exact (by repeat (first | (with_reducible exact Below.refl _ _) | (with_reducible exact Below.refl _ _) | (with_reducible refine Below.setCell ?_ (by first | omega | (simp; done) | (simp; omega)) _) | (with_reducible refine Below.alloc ?_ (by first | omega | (simp; done) | (simp; omega)) _) | (with_reducible refine Below.drew ?_) | (with_reducible refine below_drewN ?_ _)))
  have hb2 : Blk W0 (w.heap.size + 1) [.int .i64 0, .int .i64 0, .string ⟨#[]⟩, .slice none 0 0, .slice none 0 0] 39 := by rw [← hW0]; exact Blk.new' _ _ _ (by simp)
  have hc := Tryd_kid d x _ 5 i w0 W0 hv (hw0.trans (bel0.mono hw0.size)) (hN.ext bel0)
  obtain ⟨r, hr⟩ : ∃ r, kidV d x 5 i = r := ⟨_, rfl⟩
  rw [hr] at hc ⊢
  have HC := Lib.hid hc
  have BEL := Lib.hid bel0
  have HB2 := Lib.hid hb2
  subst hW0
  clear hc hr hN bel0 hb2 hv hw0
  go_enter Tryd.func33, Tryd.ntmps33
  go_wp2_with fail
  refine HC.out.mono ?_; rintro e w1 ⟨⟨u, rfl, ht⟩, hbw⟩
  obtain ⟨u, rfl, hf⟩ := ht.parts
  obtain ⟨k', n', s', a1, l1, c1, a2, l2, c2, rfl⟩ := hf.agg
  obtain ⟨b, hb⟩ : ∃ b, r.isSome = b := ⟨_, rfl⟩
  rw [hb]
  have HBS := Lib.hid hb
  have hq2 := HB2.out.ext hbw
  have q2 := hq2.cells
  have m2 := hq2.marks
  have l2' := hq2.lt
  have HQ2 := Lib.hid hq2
  have HF := Lib.hid hf
  have HBW := Lib.hid (BEL.out.trans (hbw.mono BEL.out.size))
  clear hq2 hbw HC hf ht hb
  go_wp2
  have c4 := (HQ2.out.fiveV (.int .i64 k') (.int .i64 n') (.string s') (.slice a1 l1 c1) (.slice a2 l2 c2)).cells
  refine bodyPost_ret (v := .tuple #[.agg #[.int .i64 k', .int .i64 n', .string s', .slice a1 l1 c1, .slice a2 l2 c2], .bool b]) (by simp [results, Tryd.results33, go_sem, c4]) rfl ⟨⟨_, rfl, ?_⟩, ?_⟩
  · rw [← HBS.out]
    exact ToldFst.told HF.out
  exact below_only HBW.out (Only.fiveV _ _ _ _ _ _ _) HBW.out.size (by omega)

set_option maxRecDepth 8000 in
set_option maxHeartbeats 4000000 in
theorem Tryd_Get (d : Nat) (x : ValN (d + 1)) (v : Value) (key : ByteArray) (w0 w : World) (hv : ValAt w0 (d + 1) v x) (hw0 : Below w0.heap.size w0 w) (hN : GlobAt w 0 [.int .i64 0, .int .i64 0] 143) :
    Calls Tryd.prog 32 #[v, .string key] w fun e w' => (∃ u, e = .returned u ∧ ToldO d (getV d x key) u w0) ∧ Below w.heap.size w w' := by
  obtain ⟨ka, kl, kc, qa, ql, qc, h⟩ := hv
  obtain ⟨kind, n, s, kids, keys⟩ := x
  obtain ⟨rfl⟩ : v = .agg #[.int .i64 kind, .int .i64 n, .string s, .slice ka kl kc, .slice qa ql qc] := h.val
  have hx : ValAt w0 (d + 1) (.agg #[.int .i64 kind, .int .i64 n, .string s, .slice ka kl kc, .slice qa ql qc]) (⟨kind, n, s, kids, keys⟩ : ValF (ValN d)) := ⟨ka, kl, kc, qa, ql, qc, h⟩
  obtain ⟨W0, hW0⟩ : ∃ W0, (w.alloc (.cells #[.int .i64 kind, .int .i64 n, .string s, .slice ka kl kc, .slice qa ql qc] 39)).alloc (.cells #[.int .i64 0, .int .i64 0, .string ⟨#[]⟩, .slice none 0 0, .slice none 0 0] 39) = W0 := ⟨_, rfl⟩
  have bel0 : Below w.heap.size w W0 := by rw [← hW0]; exact (by repeat (first | (with_reducible exact Below.refl _ _) | (with_reducible exact Below.refl _ _) | (with_reducible refine Below.setCell ?_ (by first | omega | (simp; done) | (simp; omega)) _) | (with_reducible refine Below.alloc ?_ (by first | omega | (simp; done) | (simp; omega)) _) | (with_reducible refine Below.drew ?_) | (with_reducible refine below_drewN ?_ _)))
  have hb1 : Blk W0 w.heap.size [.int .i64 kind, .int .i64 n, .string s, .slice ka kl kc, .slice qa ql qc] 39 := by rw [← hW0]; exact (Blk.new _ _ _).alloc _
  have hb2 : Blk W0 (w.heap.size + 1) [.int .i64 0, .int .i64 0, .string ⟨#[]⟩, .slice none 0 0, .slice none 0 0] 39 := by rw [← hW0]; exact Blk.new' _ _ _ (by simp)
  have hks : StrsAt W0 qa ql qc keys := h.keys.ext (hw0.trans (bel0.mono hw0.size))
  have HKS := Lib.hid hks
  have HX := Lib.hid hx
  have HW0 := Lib.hid (hw0.trans (bel0.mono hw0.size))
  have HN := Lib.hid (hN.ext bel0)
  obtain ⟨r, hr⟩ : ∃ r, getV d (⟨kind, n, s, kids, keys⟩ : ValF (ValN d)) key = r := ⟨_, rfl⟩
  rw [hr]
  have HR := Lib.hid hr
  have BEL := Lib.hid bel0
  have HB2 := Lib.hid hb2
  have q1 := hb1.cells
  have l1 := hb1.lt
  have HB1 := Lib.hid hb1
  obtain ⟨W0', hW0'⟩ : ∃ W0', W0 = W0' := ⟨_, rfl⟩
  clear hr hN bel0 hks hx h hb2 hb1 q1 l1 hw0
  subst hW0'
  subst hW0
  go_enter Tryd.func32, Tryd.ntmps32
  go_wp2_with fail
  refine' wp_region_seq [.inl _, .inl _, .inl _, .inl _, .inr (fun v _ => ∃ p, PlacedS keys key p ∧ v = .int .i64 p), .inr (fun v _ => ToldO d r v w0), .inr (fun v _ => ToldFst d r v w0), .inl _] (by kernel_rfl) (by kernel_rfl) ?main1
  case main1 =>
    refine wpParts_det (by rfl) (fun W hE hN => ?_) ?_
    · have hc := fun b o h => hE.cell (p := ⟨b, o, none⟩) h
      go_simp; refine ⟨Below.refl _ _, ?_⟩; rfl
    simp only [Act.put, List.setIfInBounds_toArray, List.set_cons_zero, List.set_cons_succ]
    refine wpParts_det (by rfl) (fun W hE hN => ?_) ?_
    · go_simp; refine ⟨Below.refl _ _, ?_⟩; rfl
    simp only [Act.put, List.setIfInBounds_toArray, List.set_cons_zero, List.set_cons_succ]
    refine wpParts_det (by rfl) (fun W hE hN => ?_) ?_
    · have hc := fun b o h => hE.cell (p := ⟨b, o, none⟩) h
      go_simp; refine ⟨Below.refl _ _, ?_⟩; rfl
    simp only [Act.put, List.setIfInBounds_toArray, List.set_cons_zero, List.set_cons_succ]
    refine wpParts_det (by rfl) (fun W hE hN => ?_) ?_
    · go_simp; refine ⟨Below.refl _ _, ?_⟩; rfl
    simp only [Act.put, List.setIfInBounds_toArray, List.set_cons_zero, List.set_cons_succ]
    refine wpParts_any rfl (fun _ _ _ h _ => h) (by rfl) (fun W hE hN => ?_) (fun u4 => ?_)
    · go_simp; refine ⟨Below.refl _ _, ?_⟩; refine (Tryd_placeS qa ql qc keys key W (HKS.out.ext hE)).mono ?_; rintro e w' ⟨⟨p, hp, rfl⟩, hb⟩; exact ⟨_, rfl, hb, p, hp, rfl⟩
    simp only [Act.put, List.setIfInBounds_toArray, List.set_cons_zero, List.set_cons_succ]
    refine wpParts_any rfl (fun _ _ _ h _ => h) (by rfl) (fun W hE hN => ?_) (fun u5 => ?_)
    · obtain ⟨⟨p, hp, rfl⟩, _⟩ := (show (∃ p, PlacedS keys key p ∧ u4 = .int .i64 p) ∧ True from hN); go_simp; refine ⟨Below.refl _ _, ?_⟩; refine (Tryd_kid d _ _ 6 p w0 W HX.out (HW0.out.trans (hE.mono HW0.out.size)) (HN.out.ext hE)).mono ?_; rw [kid_get (x := (⟨kind, n, s, kids, keys⟩ : ValF (ValN d))) hp, HR.out]; rintro e w' ⟨⟨u, rfl, hu⟩, hb⟩; exact ⟨_, rfl, hb, hu⟩
    simp only [Act.put, List.setIfInBounds_toArray, List.set_cons_zero, List.set_cons_succ]
    refine wpParts_any rfl (fun _ _ _ h _ => h) (by rfl) (fun W hE hN => ?_) (fun u6 => ?_)
    · obtain ⟨h5, _⟩ := (show ToldO d r u5 w0 ∧ True from hN); obtain ⟨a5, rfl, ha5⟩ := h5.parts; go_simp; first | exact ⟨Below.refl _ _, ha5⟩ | exact Below.refl _ _
    simp only [Act.put, List.setIfInBounds_toArray, List.set_cons_zero, List.set_cons_succ]
    refine wpParts_det (by rfl) (fun W hE hN => ?_) ?_
    · obtain ⟨h5, _⟩ := (show ToldO d r u5 w0 ∧ True from hN); obtain ⟨a5, rfl, ha5⟩ := h5.parts; go_simp; refine ⟨Below.refl _ _, ?_⟩; rfl
    simp only [Act.put, List.setIfInBounds_toArray, List.set_cons_zero, List.set_cons_succ]
    refine wpParts_end fun w1 hbw hG => ?_
    have hcw1 := fun b o h => hbw.cell (p := ⟨b, o, none⟩) h
    have hfw1 := fun b o h => hbw.frozen (p := ⟨b, o, none⟩) h
    obtain ⟨hf, _⟩ := (show ToldFst d r u6 w0 ∧ _ from hG)
    obtain ⟨k', n', s', a1, l1, c1, a2, l2, c2, rfl⟩ := hf.agg
    obtain ⟨b, hb⟩ : ∃ b, r.isSome = b := ⟨_, rfl⟩
    rw [hb]
    have HBS := Lib.hid hb
    have hq2 := HB2.out.ext hbw
    have q2 := hq2.cells
    have m2 := hq2.marks
    have l2' := hq2.lt
    have HQ2 := Lib.hid hq2
    have HF := Lib.hid hf
    have HBW := Lib.hid (BEL.out.trans (hbw.mono BEL.out.size))
    clear hq2 hbw hf hb hG hcw1 hfw1
    go_wp2
    have c4 := (HQ2.out.fiveV (.int .i64 k') (.int .i64 n') (.string s') (.slice a1 l1 c1) (.slice a2 l2 c2)).cells
    refine bodyPost_ret (v := .tuple #[.agg #[.int .i64 k', .int .i64 n', .string s', .slice a1 l1 c1, .slice a2 l2 c2], .bool b]) (by simp [results, Tryd.results32, go_sem, c4]) rfl ⟨⟨_, rfl, ?_⟩, ?_⟩
    · rw [← HBS.out]
      exact ToldFst.told HF.out
    exact below_only HBW.out (Only.fiveV _ _ _ _ _ _ _) HBW.out.size (by omega)
end Go.Proofs.YtmcmknndhppljaaDoor

namespace Go.Proofs.YtmcmknndhppljaaDoor
set_option linter.unusedVariables false
set_option linter.unusedSimpArgs false
open Go.RowKit Go.Dav
attribute [local go_sem] Gives ite_val ite_val_true

set_option maxRecDepth 8000 in
set_option maxHeartbeats 4000000 in
theorem Tryd_uSnoc (B k : Nat) (a : Option Addr) (n0 c : Nat) (xs : List Value) (x : Int) (w : World) (hB : B ≤ w.heap.size) (ho : w.ownsRow B 3 1 (.slice a n0 c) k xs) (hn0 : n0 = k) (hk : k < 17592186044416) :
    Calls Tryd.prog 81 #[.slice a n0 c, .int .i64 x] w fun e w' => (∃ a' c', e = .returned (.slice a' (k + 1) c') ∧ w'.ownsRow B 3 1 (.slice a' (k + 1) c') (k + 1) (xs ++ [.int .i64 x])) ∧ Below B w w' := by
  subst hn0
  have HO := Lib.hid ho
  have HCX := Lib.hid (cells_one (S := fun b => b = w.heap.size) (g := w.heap.size) (v := .int .i64 x) rfl (by simp) (Blk.new w [.int .i64 x] 3 |>.cell 0 rfl))
  have HR0 := Lib.hid (Below.refl B w)
  have HKK := Lib.hid hk
  have HBB := Lib.hid hB
  clear ho
  go_enter Tryd.func81, Tryd.ntmps81
  go_wp2_with (at_builtin; refine wpList_append_rowS rfl (.tmp 5) (.tmp 7) 45 rfl Tryd_elemInt B _ n0 xs rfl (HO.out.alloc _) (fun b => b = w.heap.size) (some ⟨w.heap.size, 0, none⟩) 1 1 [.int .i64 x] rfl HCX.out (fun u hu => by simp at hu; subst hu; rfl) (fun h => by cases h) (by have := HKK.out; unfold maxLen; omega) (by have := HKK.out; omega) (by have := HBB.out; simp; omega) ?_; intro v7 w7 hown7 hgrow7; have HBL7 := Lib.hid (below_own (HR0.out.alloc HBB.out _) (by have := HBB.out; simp; omega) (HO.out.alloc _) (Nat.le_refl _) hgrow7); have HO7 := Lib.hid hown7; clear HCX hown7 hgrow7)
  go_ret
  obtain ⟨a', c', rfl, _⟩ := own_cells HO7.out
  exact ⟨⟨a', c', rfl, HO7.out⟩, HBL7.out⟩
theorem Tryd_enter81 (args : Array Value) (W : World) : (callFunc 81 args).run Tryd.prog W = .ok (Next.enter 81 args) W := by kernel_rfl

set_option maxRecDepth 8000 in
set_option maxHeartbeats 4000000 in
theorem Tryd_throughL (s : ByteArray) (w : World) (hs : s.size ≤ 17592186044416) (hv : validB s.data.toList = true) (hN : GlobAt w 0 [.int .i64 0, .int .i64 0] 143) :
    Calls Tryd.prog 80 #[.string s, .slice none 0 0, .func (.func 81) #[] #[]] w fun e w' => (∃ a c, e = .returned (.tuple #[.slice a (ptsOf s.data.toList).1.length c, .int .i64 0, .int .i64 0])) ∧ Below w.heap.size w w' := by
  obtain ⟨bc, hcv, hby, hbw⟩ := Tryd_convBytes s w (by omega)
  have hN1 := hN.ext hbw
  have hen := Tryd_enter81
  have HB := Lib.hid hby
  have HBW := Lib.hid hbw
  obtain ⟨W1, hW1⟩ : ∃ W1, Lib.bytesWorld w 5 s = W1 := ⟨_, rfl⟩
  rw [hW1] at hcv HB HBW hN1
  obtain ⟨b, hb⟩ : ∃ b, s.data.toList = b := ⟨_, rfl⟩
  obtain ⟨bl, hbl⟩ : ∃ bl, s.size = bl := ⟨_, rfl⟩
  rw [hb] at HB hv ⊢
  rw [hbl] at hcv HB hs
  have HL := Lib.hid HB.out.hlen
  have hcap := HB.out.hcap
  have HN := Lib.hid hN1
  have HVV := Lib.hid hv
  clear hby hbw hW1 hN hN1 hb hbl hv
  go_enter Tryd.func80, Tryd.ntmps80
  go_wp2_with fail
  go_loopw [1, 10] (fun nv ix wr => ∃ (i : Nat) (acc : List Nat) (oa : Option Addr) (oc : Nat), i ≤ bl ∧ acc.length ≤ i ∧ ix = .int .i64 (i : Int) ∧ nv = .slice oa acc.length oc ∧ PtsAt b acc i ∧ wr.ownsRow W1.heap.size 3 1 (.slice oa acc.length oc) acc.length (natsV acc) ∧ Below W1.heap.size W1 wr) (fun _ ix _ => bl - (intOf ix).toNat)
  case atStart => exact ⟨0, [], none, 0, Nat.zero_le _, Nat.le_refl _, by go_num, rfl, PtsAt.zero b, World.ownsRow_nil _ _ _ _, Below.refl _ _⟩
  case round =>
    obtain ⟨i, acc, oa, oc, hi, hac, rfl, rfl, hpt, hor, hbel⟩ := hrel
    have HPT := Lib.hid hpt
    have HBE := Lib.hid hbel
    have HOR := Lib.hid hor
    have HAC := Lib.hid hac
    have hsr := hbel.size
    clear hpt hbel hor hac
    by_cases hlt : i < bl
    · have g1 : (i : Int) < (bl : Int) := by omega
      have g2 : (i : Int) ≤ (bl : Int) := by omega
      have g3 : (bl : Int) ≤ (bc : Int) := by omega
      have HD := Lib.hid (show BytesAt wr (some ⟨w.heap.size, i, none⟩) (bl - i) (bc - i) (b.drop i) from by
        have h := HB.out.ext HBE.out
        refine ⟨by rw [List.length_drop, HL.out], by omega, by have := h.hmax; omega, by have := h.hfew; omega, fun k x hk => ?_, fun e => by cases e⟩
        rw [List.getElem?_drop] at hk
        obtain ⟨b', o', e, h1, h2⟩ := h.hat (i + k) x hk
        cases e
        exact ⟨w.heap.size, i, rfl, h1, by rw [Nat.zero_add] at h2; exact h2⟩)
      have HLT := Lib.hid hlt
      have HSS := Lib.hid hs
      clear hlt hi
      go_wp2_with fail
      refine (Tryd_next (some ⟨w.heap.size, i, none⟩) (bl - i) (bc - i) (b.drop i) wr HD.out (by have := HLT.out; omega) (HN.out.ext HBE.out)).mono ?_; rintro e w1 ⟨rfl, hb1⟩
      have hbn := beginOf_len (b.drop i)
      rw [List.length_drop, HL.out] at hbn
      obtain ⟨k, hn⟩ : ∃ k, (beginOf (b.drop i)).2 = k := ⟨_, rfl⟩
      obtain ⟨c, hc⟩ : ∃ c, (beginOf (b.drop i)).1 = c := ⟨_, rfl⟩
      rw [hn] at hbn ⊢
      rw [hc]
      have HNN := Lib.hid hn
      have HC := Lib.hid hc
      have HB1 := Lib.hid (HBE.out.trans (hb1.mono HBE.out.size))
      have HO1 := Lib.hid (ownsRow_below HOR.out hb1)
      have hs1 := hb1.size
      have hbn' : i + k ≤ bl := by have := HLT.out; omega
      clear hn hc hb1 hbn
      by_cases h0 : k = 0
      · subst h0
        have hst := HPT.out.stop (by rw [HL.out]; exact HLT.out) HNN.out
        have hvv := HVV.out
        unfold validB at hvv
        rw [hst] at hvv
        cases hvv
      · have d1 : ((k : Int) == 0) = false := by rw [beq_eq_false_iff_ne]; omega
        have hnx := HPT.out.next (by rw [HL.out]; exact HLT.out) (by rw [HNN.out]; exact h0)
        rw [HNN.out, HC.out] at hnx
        have HNX := Lib.hid hnx
        have u1 : IntKind.i64.wrap ((i : Int) + (k : Int)) = (i : Int) + (k : Int) := IntWalk.i64_in _ (by omega)
        have hi0 := HLT.out
        clear hnx
        go_wp2_with fail
        refine (Tryd_uSnoc W1.heap.size acc.length oa acc.length oc (natsV acc) (c : Int) w1 (by have := HB1.out.size; omega) HO1.out rfl (by have := HAC.out; have := HLT.out; have := HSS.out; omega)).mono ?_; rintro e w2 ⟨⟨oa2, oc2, rfl, ho2⟩, hb2⟩
        have HB2 := Lib.hid (HB1.out.trans hb2)
        have HO2 := Lib.hid ho2
        clear hb2 ho2
        go_wp2
        go_roundw
        case rel =>
          refine ⟨i + k, acc ++ [c], oa2, oc2, hbn', by have := HAC.out; simp; omega, by go_num, by simp, HNX.out, ?_, HB2.out⟩
          rw [natsV_snoc, show (acc ++ [c]).length = acc.length + 1 from by simp]
          exact HO2.out
        case measure => simp [intOf]; omega
    · have g1 : ¬ (i : Int) < (bl : Int) := by omega
      obtain rfl : i = bl := by omega
      have hdn := HPT.out
      rw [← HL.out] at hdn
      have HV := Lib.hid hdn.done
      clear hdn hlt hi
      go_wp2
      refine bodyPost_ret (v := .tuple #[.slice oa acc.length oc, .int .i64 0, .int .i64 0]) (by simp [results, Tryd.results80, go_sem]) rfl ⟨⟨oa, oc, ?_⟩, HBW.out.trans (HBE.out.mono HBW.out.size)⟩
      rw [HV.out]

theorem Tryd_uPoints (s : ByteArray) (w : World) (hs : s.size ≤ 17592186044416) (hv : validB s.data.toList = true) (hN : GlobAt w 0 [.int .i64 0, .int .i64 0] 143) :
    Calls Tryd.prog 63 #[.string s] w fun e w' => (∃ a c, e = .returned (.tuple #[.slice a (ptsOf s.data.toList).1.length c, .int .i64 0, .int .i64 0])) ∧ Below w.heap.size w w' := by
  have HC := Lib.hid (Tryd_throughL s w hs hv hN)
  obtain ⟨n, hn⟩ : ∃ n, (ptsOf s.data.toList).1.length = n := ⟨_, rfl⟩
  rw [hn] at HC ⊢
  clear hN hv hn
  go_enter Tryd.func63, Tryd.ntmps63
  go_wp2_with fail
  refine HC.out.mono ?_; rintro e w1 ⟨⟨a, c, rfl⟩, hb1⟩
  have HB1 := Lib.hid hb1
  clear hb1 HC
  go_wp2
  refine bodyPost_ret (v := .tuple #[.slice a n c, .int .i64 0, .int .i64 0]) (by simp [results, Tryd.results63, go_sem]) rfl ⟨⟨a, c, rfl⟩, HB1.out⟩
end Go.Proofs.YtmcmknndhppljaaDoor

namespace Go.Dav
set_option linter.unusedVariables false
set_option linter.unusedSimpArgs false
open Go Go.RowKit
/-- How long a value is. -/
def lenV (d : Nat) (x : ValN (d + 1)) : Nat × Bool :=
  if rightV (d + 1) x = true then
    (if x.to.kind = 5 ∨ x.to.kind = 6 then (x.to.kids.length, true) else if x.to.kind = 4 then ((ptsOf x.to.s.data.toList).1.length, true) else (0, false))
  else (0, false)
theorem alone_text {K : Type} {x : ValF K} (h : aloneB x = true) (hk : x.kind = 4) : validB x.s.data.toList = true := by
  unfold aloneB at h; rw [Bool.and_eq_true] at h; have h2 := h.2; rw [hk] at h2; simp at h2; exact h2.2.1
end Go.Dav
namespace Go.Proofs.YtmcmknndhppljaaDoor
set_option linter.unusedVariables false
set_option linter.unusedSimpArgs false
open Go.RowKit Go.Dav
attribute [local go_sem] Gives ite_val ite_val_true

set_option maxRecDepth 8000 in
set_option maxHeartbeats 4000000 in
theorem Tryd_Len (d : Nat) (x : ValN (d + 1)) (v : Value) (w : World) (hv : ValAt w (d + 1) v x) (hN : GlobAt w 0 [.int .i64 0, .int .i64 0] 143) :
    Calls Tryd.prog 36 #[v] w fun e w' => e = .returned (.tuple #[.int .i64 (lenV d x).1, .bool (lenV d x).2]) ∧ Below w.heap.size w w' := by
  obtain ⟨ka, kl, kc, qa, ql, qc, h⟩ := hv
  obtain ⟨kind, n, s, kids, keys⟩ := x
  obtain ⟨rfl⟩ : v = .agg #[.int .i64 kind, .int .i64 n, .string s, .slice ka kl kc, .slice qa ql qc] := h.val
  have hx : ValAt w (d + 1) (.agg #[.int .i64 kind, .int .i64 n, .string s, .slice ka kl kc, .slice qa ql qc]) (⟨kind, n, s, kids, keys⟩ : ValF (ValN d)) := ⟨ka, kl, kc, qa, ql, qc, h⟩
  obtain ⟨W0, hW0⟩ : ∃ W0, w.alloc (.cells #[.int .i64 kind, .int .i64 n, .string s, .slice ka kl kc, .slice qa ql qc] 39) = W0 := ⟨_, rfl⟩
  have bel0 : Below w.heap.size w W0 := by rw [← hW0]; exact (by repeat (first | (with_reducible exact Below.refl _ _) | (with_reducible exact Below.refl _ _) | (with_reducible refine Below.setCell ?_ (by first | omega | (simp; done) | (simp; omega)) _) | (with_reducible refine Below.alloc ?_ (by first | omega | (simp; done) | (simp; omega)) _) | (with_reducible refine Below.drew ?_) | (with_reducible refine below_drewN ?_ _)))
  have hb1 : Blk W0 w.heap.size [.int .i64 kind, .int .i64 n, .string s, .slice ka kl kc, .slice qa ql qc] 39 := by rw [← hW0]; exact Blk.new _ _ _
  obtain ⟨r, hr⟩ : ∃ r, rightV (d + 1) (⟨kind, n, s, kids, keys⟩ : ValF (ValN d)) = r := ⟨_, rfl⟩
  have hc := Tryd_right (d + 1) _ _ W0 (ValAt.ext bel0 _ hx) (hN.ext bel0)
  rw [hr] at hc
  have HC := Lib.hid hc
  have hlen : kids.length = kl := h.hlen
  have hss : s.size ≤ 17592186044416 := h.hs
  have HSS := Lib.hid hss
  have BEL := Lib.hid bel0
  have HB1 := Lib.hid hb1
  have HN := Lib.hid hN
  obtain ⟨ro, hro⟩ : ∃ ro, lenV d (⟨kind, n, s, kids, keys⟩ : ValF (ValN d)) = ro := ⟨_, rfl⟩
  rw [hro]
  have hro2 : (if r = true then (if kind = 5 ∨ kind = 6 then (kl, true) else if kind = 4 then ((ptsOf s.data.toList).1.length, true) else (0, false)) else (0, false)) = ro := by
    rw [← hro, ← hr, ← hlen]; rfl
  have HVT := Lib.hid (show r = true → kind = 4 → validB s.data.toList = true from fun hrt hk => alone_text (x := (⟨kind, n, s, kids, keys⟩ : ValF (ValN d))) (right_alone (hr.trans hrt)) hk)
  have HRO := Lib.hid hro2
  subst hW0
  clear hc hr hN bel0 hb1 hx h hro hro2 hss hlen
  cases r with
  | false =>
    have e1 : ro = (0, false) := by rw [← HRO.out]; rfl
    subst e1
    go_enter Tryd.func36, Tryd.ntmps36
    go_wp2_with fail
    refine HC.out.mono ?_; rintro e w1 ⟨rfl, hbw⟩
    have hq1 := HB1.out.ext hbw
    have q1 := hq1.cells
    have l1 := hq1.lt
    have HQ1 := Lib.hid hq1
    have HBW := Lib.hid (BEL.out.trans (hbw.mono BEL.out.size))
    clear hq1 hbw HC
    go_wp2
    go_ret2
    exact ⟨rfl, HBW.out⟩
  | true =>
    by_cases h56 : kind = 5 ∨ kind = 6
    · have e1 : ro = (kl, true) := by rw [← HRO.out, if_pos rfl, if_pos h56]
      subst e1
      rcases h56 with rfl | rfl
      · skip
        go_enter Tryd.func36, Tryd.ntmps36
        go_wp2_with fail
        refine HC.out.mono ?_; rintro e w1 ⟨rfl, hbw⟩
        have hq1 := HB1.out.ext hbw
        have q1 := hq1.cells
        have l1 := hq1.lt
        have HQ1 := Lib.hid hq1
        have HBW := Lib.hid (BEL.out.trans (hbw.mono BEL.out.size))
        clear hq1 hbw HC
        go_wp2_with fail
        refine (Tryd_holds _ _).mono ?_; rintro e w2 ⟨rfl, hb2⟩
        simp only [show holdsB 5 = true from rfl, show holdsB 6 = true from rfl]
        have hq2 := HQ1.out.ext hb2
        have q1 := hq2.cells
        have l1 := hq2.lt
        have HB2 := Lib.hid (HBW.out.trans (hb2.mono HBW.out.size))
        clear hb2 hq2
        go_wp2
        go_ret2
        exact ⟨rfl, HB2.out⟩
      · skip
        go_enter Tryd.func36, Tryd.ntmps36
        go_wp2_with fail
        refine HC.out.mono ?_; rintro e w1 ⟨rfl, hbw⟩
        have hq1 := HB1.out.ext hbw
        have q1 := hq1.cells
        have l1 := hq1.lt
        have HQ1 := Lib.hid hq1
        have HBW := Lib.hid (BEL.out.trans (hbw.mono BEL.out.size))
        clear hq1 hbw HC
        go_wp2_with fail
        refine (Tryd_holds _ _).mono ?_; rintro e w2 ⟨rfl, hb2⟩
        simp only [show holdsB 5 = true from rfl, show holdsB 6 = true from rfl]
        have hq2 := HQ1.out.ext hb2
        have q1 := hq2.cells
        have l1 := hq2.lt
        have HB2 := Lib.hid (HBW.out.trans (hb2.mono HBW.out.size))
        clear hb2 hq2
        go_wp2
        go_ret2
        exact ⟨rfl, HB2.out⟩
    · have n5 : kind ≠ 5 := fun hh => h56 (.inl hh)
      have n6 : kind ≠ 6 := fun hh => h56 (.inr hh)
      have HH : ∀ W, Calls Tryd.prog 62 #[.int .i64 kind] W fun e w' => e = .returned (.bool false) ∧ Below W.heap.size W w' := fun W => by
        have := Tryd_holds kind W
        rw [show holdsB kind = false from by rw [holds_eq]; simp [n5, n6]] at this
        exact this
      have HH := Lib.hid HH
      by_cases h4 : kind = 4
      · subst h4
        have hvt := HVT.out rfl rfl
        obtain ⟨m, hm⟩ : ∃ m, (ptsOf s.data.toList).1.length = m := ⟨_, rfl⟩
        have e1 : ro = (m, true) := by rw [← HRO.out, if_pos rfl, if_neg h56, if_pos rfl, hm]
        subst e1
        have hup := fun W (hNW : GlobAt W 0 [.int .i64 0, .int .i64 0] 143) => Tryd_uPoints s W HSS.out hvt hNW
        rw [hm] at hup
        have HUP := Lib.hid hup
        clear hvt hm hup h56 n5 n6
        go_enter Tryd.func36, Tryd.ntmps36
        go_wp2_with fail
        refine HC.out.mono ?_; rintro e w1 ⟨rfl, hbw⟩
        have hq1 := HB1.out.ext hbw
        have q1 := hq1.cells
        have l1 := hq1.lt
        have HQ1 := Lib.hid hq1
        have HBW := Lib.hid (BEL.out.trans (hbw.mono BEL.out.size))
        clear hq1 hbw HC
        go_wp2_with fail
        refine (HH.out _).mono ?_; rintro e w2 ⟨rfl, hb2⟩
        have hq2 := HQ1.out.ext hb2
        have q1 := hq2.cells
        have l1 := hq2.lt
        have HB2 := Lib.hid (HBW.out.trans (hb2.mono HBW.out.size))
        clear hb2 hq2
        go_wp2_with fail
        refine (HUP.out _ (HN.out.ext HB2.out)).mono ?_; rintro e w3 ⟨⟨a, c, rfl⟩, hb3⟩
        have HB3 := Lib.hid (HB2.out.trans (hb3.mono HB2.out.size))
        clear hb3
        go_wp2
        go_ret2
        exact ⟨rfl, HB3.out⟩
      · have e1 : ro = (0, false) := by rw [← HRO.out, if_pos rfl, if_neg h56, if_neg h4]
        subst e1
        have d4 : (kind == 4) = false := by rw [beq_eq_false_iff_ne]; exact h4
        clear h56 n5 n6
        go_enter Tryd.func36, Tryd.ntmps36
        go_wp2_with fail
        refine HC.out.mono ?_; rintro e w1 ⟨rfl, hbw⟩
        have hq1 := HB1.out.ext hbw
        have q1 := hq1.cells
        have l1 := hq1.lt
        have HQ1 := Lib.hid hq1
        have HBW := Lib.hid (BEL.out.trans (hbw.mono BEL.out.size))
        clear hq1 hbw HC
        go_wp2_with fail
        refine (HH.out _).mono ?_; rintro e w2 ⟨rfl, hb2⟩
        have hq2 := HQ1.out.ext hb2
        have q1 := hq2.cells
        have l1 := hq2.lt
        have HB2 := Lib.hid (HBW.out.trans (hb2.mono HBW.out.size))
        clear hb2 hq2
        go_wp2
        go_ret2
        exact ⟨rfl, HB2.out⟩
end Go.Proofs.YtmcmknndhppljaaDoor

namespace Go.Dav
set_option linter.unusedVariables false
set_option linter.unusedSimpArgs false
open Go Go.RowKit
/-- A value of so many levels. -/
structure AnyV where
  d : Nat
  x : ValN d
/-- What keys lead to. -/
def pathV : (d : Nat) → ValN d → List ByteArray → Option AnyV
  | d, x, [] => some ⟨d, x⟩
  | 0, _, _ :: _ => none
  | d + 1, x, k :: ks => match getV d x k with
    | none => none
    | some y => pathV d y ks
def pathR (d : Nat) (x : ValN d) (ks : List ByteArray) : Option AnyV := if rightV d x = true then pathV d x ks else none
def ToldS (r : Option AnyV) (v : Value) (W : World) : Prop := match r with
  | none => v = .tuple #[.agg zeroL.toArray, .bool false]
  | some y => ∃ u, v = .tuple #[u, .bool true] ∧ ValAt W y.d u y.x
theorem pathV_nil {d : Nat} {x : ValN d} : pathV d x [] = some ⟨d, x⟩ := by cases d <;> rfl
theorem pathV_cons {d : Nat} {x : ValN (d + 1)} {k : ByteArray} {ks : List ByteArray} : pathV (d + 1) x (k :: ks) = match getV d x k with
    | none => none
    | some y => pathV d y ks := rfl
/-- A block of another place stays. -/
theorem Blk.fiveS2 {W : World} {q p : Nat} {cs : List Value} {t : TypeId} (h : Blk W q cs t) (hne : q ≠ p) (a b c d e : Value) :
    Blk (((((W.setCell ⟨p, 0, none⟩ a).setCell ⟨p, 1, none⟩ b).setCell ⟨p, 2, none⟩ c).setCell ⟨p, 3, none⟩ d).setCell ⟨p, 4, none⟩ e) q cs t := h.onlyS (OnlyS.fiveS W p a b c d e) hne
theorem ValAt.pos {W : World} {d : Nat} {v : Value} {x : ValN d} (h : ValAt W d v x) : ∃ e, d = e + 1 := by
  cases d with
  | zero => exact h.elim
  | succ e => exact ⟨e, rfl⟩
end Go.Dav
namespace Go.Proofs.YtmcmknndhppljaaDoor
set_option linter.unusedVariables false
set_option linter.unusedSimpArgs false
open Go.RowKit Go.Dav
attribute [local go_sem] Gives ite_val ite_val_true

/-- On the way along keys. -/
def TrydOnWay (w0 w : World) (ks : List ByteArray) (g : Option AnyV) (i : Nat) (wr : World) : Prop :=
  ∃ (e : Nat) (y : ValN (e + 1)) (k n : Int) (s : ByteArray) (a1 : Option Addr) (l1 c1 : Nat) (a2 : Option Addr) (l2 c2 : Nat), ValAt w0 (e + 1) (.agg #[.int .i64 k, .int .i64 n, .string s, .slice a1 l1 c1, .slice a2 l2 c2]) y ∧
    Blk wr w.heap.size [.int .i64 k, .int .i64 n, .string s, .slice a1 l1 c1, .slice a2 l2 c2] 39 ∧ Blk wr (w.heap.size + 1) [.int .i64 0, .int .i64 0, .string ⟨#[]⟩, .slice none 0 0, .slice none 0 0] 39 ∧
    pathV (e + 1) y (ks.drop i) = g ∧ Below w.heap.size w wr

set_option maxRecDepth 8000 in
set_option maxHeartbeats 8000000 in
theorem Tryd_Path (d : Nat) (x : ValN (d + 1)) (v : Value) (pa : Option Addr) (pn pc : Nat) (ks : List ByteArray) (w0 w : World) (hv : ValAt w0 (d + 1) v x) (hw0 : Below w0.heap.size w0 w) (hP : StrsAt w pa pn pc ks) (hN : GlobAt w 0 [.int .i64 0, .int .i64 0] 143) :
    Calls Tryd.prog 35 #[v, .slice pa pn pc] w fun e w' => (∃ u, e = .returned u ∧ ToldS (pathR (d + 1) x ks) u w0) ∧ Below w.heap.size w w' := by
  obtain ⟨kind, n, s, ka, kl, kc, qa, ql, qc, rfl⟩ := hv.agg
  obtain ⟨W0, hW0⟩ : ∃ W0, (w.alloc (.cells #[.int .i64 kind, .int .i64 n, .string s, .slice ka kl kc, .slice qa ql qc] 39)).alloc (.cells #[.int .i64 0, .int .i64 0, .string ⟨#[]⟩, .slice none 0 0, .slice none 0 0] 39) = W0 := ⟨_, rfl⟩
  have bel0 : Below w.heap.size w W0 := by rw [← hW0]; exact (by repeat (first | (with_reducible exact Below.refl _ _) | (with_reducible exact Below.refl _ _) | (with_reducible refine Below.setCell ?_ (by first | omega | (simp; done) | (simp; omega)) _) | (with_reducible refine Below.alloc ?_ (by first | omega | (simp; done) | (simp; omega)) _) | (with_reducible refine Below.drew ?_) | (with_reducible refine below_drewN ?_ _)))
  have hb1 : Blk W0 w.heap.size [.int .i64 kind, .int .i64 n, .string s, .slice ka kl kc, .slice qa ql qc] 39 := by rw [← hW0]; exact (Blk.new _ _ _).alloc _
  have hb2 : Blk W0 (w.heap.size + 1) [.int .i64 0, .int .i64 0, .string ⟨#[]⟩, .slice none 0 0, .slice none 0 0] 39 := by rw [← hW0]; exact Blk.new' _ _ _ (by simp)
  obtain ⟨r, hr⟩ : ∃ r, rightV (d + 1) x = r := ⟨_, rfl⟩
  have hc := Tryd_right (d + 1) x _ W0 (ValAt.ext (hw0.trans (bel0.mono hw0.size)) _ hv) (hN.ext bel0)
  rw [hr] at hc
  obtain ⟨g, hg⟩ : ∃ g, pathR (d + 1) x ks = g := ⟨_, rfl⟩
  rw [hg]
  have HG := Lib.hid (show (if r = true then pathV (d + 1) x ks else none) = g from by rw [← hg, ← hr]; rfl)
  have HC := Lib.hid hc
  have HV := Lib.hid hv
  have HP := Lib.hid hP
  have HL := Lib.hid hP.hlen
  have HFEW := Lib.hid hP.hfew
  have HN := Lib.hid hN
  have BEL := Lib.hid bel0
  have HW0 := Lib.hid hw0
  have HB1 := Lib.hid hb1
  have HB2 := Lib.hid hb2
  subst hW0
  clear hc hr hN bel0 hb1 hb2 hg hv hP hw0
  cases r with
  | false =>
    have e1 : g = none := by rw [← HG.out]; rfl
    subst e1
    go_enter Tryd.func35, Tryd.ntmps35
    go_wp2_with fail
    refine HC.out.mono ?_; rintro e w1 ⟨rfl, hbw⟩
    have hq2 := HB2.out.ext hbw
    have q2 := hq2.cells
    have m2 := hq2.marks
    have l2' := hq2.lt
    have HQ2 := Lib.hid hq2
    have HBW := Lib.hid (BEL.out.trans (hbw.mono BEL.out.size))
    clear hq2 hbw HC
    go_wp2
    have c4 := (HQ2.out.fiveV (.int .i64 0) (.int .i64 0) (.string ⟨#[]⟩) (.slice none 0 0) (.slice none 0 0)).cells
    refine bodyPost_ret (v := .tuple #[.agg zeroL.toArray, .bool false]) (by simp [results, Tryd.results35, go_sem, c4, zeroL]) rfl ⟨⟨_, rfl, rfl⟩, ?_⟩
    exact below_only HBW.out (Only.fiveV _ _ _ _ _ _ _) HBW.out.size (by omega)
  | true =>
    have hg : pathV (d + 1) x ks = g := by rw [← HG.out]; rfl
    have HGG := Lib.hid hg
    clear hg HG
    go_enter Tryd.func35, Tryd.ntmps35
    go_wp2_with fail
    refine HC.out.mono ?_; rintro e w1 ⟨rfl, hbw⟩
    have HQ1 := Lib.hid (HB1.out.ext hbw)
    have HQ2 := Lib.hid (HB2.out.ext hbw)
    have HBW := Lib.hid (BEL.out.trans (hbw.mono BEL.out.size))
    clear hbw HC HB1 HB2
    go_wp2_with fail
    go_loopw [15] (fun ix wr => ∃ i : Nat, i ≤ pn ∧ ix = .int .i64 (i : Int) ∧ TrydOnWay w0 w ks g i wr) (fun ix _ => pn - (intOf ix).toNat)
    case atStart => exact ⟨0, Nat.zero_le _, by go_num, d, x, kind, n, s, ka, kl, kc, qa, ql, qc, HV.out, HQ1.out, HQ2.out, by rw [List.drop_zero]; exact HGG.out, HBW.out⟩
    case round =>
      obtain ⟨i, hi, rfl, e, y, k, nn, ss, a1, l1, c1, a2, l2, c2, hval, hq1, hq2, hpath, hbel⟩ := hrel
      have HVAL := Lib.hid hval
      have q1 := hq1.cells
      have m1 := hq1.marks
      have lt1 := hq1.lt
      have q2 := hq2.cells
      have m2 := hq2.marks
      have lt2 := hq2.lt
      have HR1 := Lib.hid hq1
      have HR2 := Lib.hid hq2
      have HPATH := Lib.hid hpath
      have HBE := Lib.hid hbel
      clear hval hq1 hq2 hpath hbel
      by_cases hlt : i < pn
      · have g1 : (i : Int) < (pn : Int) := by omega
        obtain ⟨key, hkey⟩ : ∃ key, ks[i]? = some key := ⟨_, List.getElem?_eq_getElem (by have := HL.out; omega)⟩
        obtain ⟨b, o, rfl, hbl, hcell⟩ := (HP.out.ext HBE.out).hat i key hkey
        have hdrop : ks.drop i = key :: ks.drop (i + 1) := by rw [List.drop_eq_getElem_cons (by have := HL.out; omega)]; congr 1; exact (List.getElem?_eq_some_iff.1 hkey).2
        have hp2 := HPATH.out
        rw [hdrop, pathV_cons] at hp2
        have hget := Tryd_Get e y _ key w0 wr HVAL.out (HW0.out.trans (HBE.out.mono HW0.out.size)) (HN.out.ext HBE.out)
        have hpn6 : (pn : Int) ≤ 140737488355328 := by have := HFEW.out; omega
        obtain ⟨ro, hro⟩ : ∃ ro, getV e y key = ro := ⟨_, rfl⟩
        rw [hro] at hget hp2
        have HGET := Lib.hid hget
        have HP2 := Lib.hid hp2
        clear hkey hdrop hp2 hget hro
        go_wp2_with fail
        refine HGET.out.mono ?_; rintro e' w2 ⟨⟨u, rfl, hto⟩, hb2⟩
        obtain ⟨u, rfl, hfs⟩ := hto.parts
        obtain ⟨k', n', s', b1, m1', d1, b2, m2', d2, rfl⟩ := hfs.agg
        have hr1 := HR1.out.ext hb2
        have hr2 := HR2.out.ext hb2
        have HT1 := Lib.hid hr1
        have HT2 := Lib.hid hr2
        have q1 := hr1.cells
        have m1 := hr1.marks
        have lt1 := hr1.lt
        have HBE2 := Lib.hid (HBE.out.trans (hb2.mono HBE.out.size))
        have HFS := Lib.hid hfs
        clear hto hfs hr1 hr2 hb2 HGET q2 m2 lt2
        cases ro with
        | none =>
          have e1 : g = none := by rw [← HP2.out]
          subst e1
          have q2 := HT2.out.cells
          have m2 := HT2.out.marks
          have lt2 := HT2.out.lt
          simp only [Option.isSome_none]
          go_wp2
          have c4 := ((HT2.out.fiveS2 (p := w.heap.size) (by omega) (.int .i64 k') (.int .i64 n') (.string s') (.slice b1 m1' d1) (.slice b2 m2' d2)).fiveV (.int .i64 0) (.int .i64 0) (.string ⟨#[]⟩) (.slice none 0 0) (.slice none 0 0)).cells
          refine bodyPost_ret (v := .tuple #[.agg zeroL.toArray, .bool false]) (by simp [results, Tryd.results35, go_sem, c4, zeroL]) rfl ⟨⟨_, rfl, rfl⟩, ?_⟩
          exact below_only (below_only HBE2.out (Only.fiveV _ _ _ _ _ _ _) HBE2.out.size (by omega)) (Only.fiveV _ _ _ _ _ _ _) (by have := HBE2.out.size; simp; omega) (by omega)
        | some z =>
          obtain ⟨e2, rfl⟩ := (show ValAt w0 e _ z from HFS.out).pos
          simp only [Option.isSome_some]
          go_wp2_with fail
          go_roundw
          case rel =>
            refine ⟨i + 1, by omega, by go_num, e2, z, k', n', s', b1, m1', d1, b2, m2', d2, HFS.out, HT1.out.fiveV _ _ _ _ _, HT2.out.fiveS2 (by omega) _ _ _ _ _, HP2.out, below_only HBE2.out (Only.fiveV _ _ _ _ _ _ _) HBE2.out.size (by omega)⟩
          case measure => simp [intOf]; omega
      · have g1 : ¬ (i : Int) < (pn : Int) := by omega
        have e1 : g = some ⟨e + 1, y⟩ := by rw [← HPATH.out, List.drop_eq_nil_of_le (by have := HL.out; omega), pathV_nil]
        subst e1
        go_wp2
        have c4 := (HR2.out.fiveV (.int .i64 k) (.int .i64 nn) (.string ss) (.slice a1 l1 c1) (.slice a2 l2 c2)).cells
        refine bodyPost_ret (v := .tuple #[.agg #[.int .i64 k, .int .i64 nn, .string ss, .slice a1 l1 c1, .slice a2 l2 c2], .bool true]) (by simp [results, Tryd.results35, go_sem, c4]) rfl ⟨⟨_, rfl, _, rfl, HVAL.out⟩, ?_⟩
        exact below_only HBE.out (Only.fiveV _ _ _ _ _ _ _) HBE.out.size (by omega)
end Go.Proofs.YtmcmknndhppljaaDoor

namespace Go.Dav
set_option linter.unusedVariables false
set_option linter.unusedSimpArgs false
open Go Go.RowKit
def kA : ByteArray := ⟨#[97]⟩
def kB : ByteArray := ⟨#[98]⟩
def kC : ByteArray := ⟨#[99]⟩
def kE : ByteArray := ⟨#[195, 169]⟩
def pairI (key : ByteArray) (k n : Int) : PairE := ⟨key, k, n, ⟨#[]⟩, none, 0, 0, none, 0, 0⟩
def fLeaf (e : PairE) : ValN 1 := leafV 0 e.k e.n
/-- The object that wakes makes. -/
def objAB : ValN 2 := (⟨6, 0, noStr, [leafV 0 1 0, leafV 0 3 1], [kA, kB]⟩ : ValF (ValN 1))
theorem objAB_right : rightV 2 objAB = true := by decide +kernel
theorem objAB_depth : depthV 2 objAB = 1 := by decide +kernel
theorem objAB_nodes : nodesV 2 objAB = 3 := by decide +kernel
theorem objAB_b : getV 1 objAB kB = some (leafV 0 3 1) := by kernel_rfl
theorem objAB_c : getV 1 objAB kC = none := by kernel_rfl
theorem textE_right : rightV 1 (textV 0 kE) = true := by decide +kernel
theorem textE_len : lenV 0 (textV 0 kE) = (1, true) := by decide +kernel
theorem zero_wrong : rightV 1 (leafV 0 0 0) = false := by decide +kernel
theorem two_sorted {x y : PairE} {m : List PairE} (hl : m.length = 2) (hp : m.Perm [x, y]) (hs : SortedS m 0 2) (h : kless y.key x.key = true) : m = [y, x] := by
  match m, hl with
  | [p, q], _ =>
    have hle : kle p.key q.key := hs 0 1 p q (by omega) (by omega) (by omega) rfl rfl
    have hpm : p ∈ [x, y] := hp.mem_iff.1 (by simp)
    simp only [List.mem_cons, List.not_mem_nil, or_false] at hpm
    rcases hpm with rfl | rfl
    · have h2 := hp.cons_inv
      rw [List.perm_singleton] at h2
      cases h2
      unfold kle at hle
      rw [h] at hle; cases hle
    · have h2 := (hp.trans (List.Perm.swap p x [])).cons_inv
      rw [List.perm_singleton] at h2
      cases h2
      rfl
theorem two_same {x : PairE} {m : List PairE} {l : List PairE} (hl : m.length = 2) (hp : m.Perm l) (he : ∀ z ∈ l, z.key.toList = x.key.toList) : hasDup m := by
  match m, hl with
  | [p, q], _ =>
    refine ⟨0, p, q, rfl, rfl, ?_⟩
    rw [beq_iff_eq, he p (hp.mem_iff.1 (by simp)), he q (hp.mem_iff.1 (by simp))]
theorem dup_no {m : List PairE} {n : Nat} (hl : m.length = n) (h : hasDup m) (k : noDup m n) : False := by
  obtain ⟨i, x, y, hx, hy, he⟩ := h
  have := k i x y (by have := (List.getElem?_eq_some_iff.1 hy).1; omega) hx hy
  rw [he] at this; cases this
/-- What Object answers of the two pairs of wakes. -/
theorem wakes_yes {P : Prop} {d : Nat} {f : PairE → ValN d} {m : List PairE} {x y : PairE} (hl : m.length = 2) (hp : m.Perm [x, y]) (hs : SortedS m 0 2) (h : kless y.key x.key = true) (hne : (y.key.toList == x.key.toList) = false) (hd : hasDup m) : P := by
  have hm := two_sorted hl hp hs h
  subst hm
  obtain ⟨i, a, b, ha, hb, he⟩ := hd
  match i, ha, hb with
  | 0, ha, hb => simp at ha hb; subst ha; subst hb; rw [hne] at he; cases he
  | 1, ha, hb => simp at hb
end Go.Dav

namespace Go.Proofs.YtmcmknndhppljaaDoor
set_option linter.unusedVariables false
set_option linter.unusedSimpArgs false
open Go.RowKit Go.Dav
attribute [local go_sem] Gives ite_val ite_val_true

/-- The first object of wakes. -/
theorem Tryd_wakeObj (w : World) (g : Nat) (hb : Blk w g (flatE [pairI kB 3 1, pairI kA 1 0]) 56) (hN : GlobAt w 0 [.int .i64 0, .int .i64 0] 143) :
    Calls Tryd.prog 23 #[.slice (some ⟨g, 0, none⟩) 2 2] w fun e w' => (∃ v, e = .returned (.tuple #[v, .int .i64 0]) ∧ ValAt w' 2 v objAB) ∧ Below w.heap.size w w' := by
  refine (Tryd_Object 1 fLeaf (some ⟨g, 0, none⟩) 2 2 [pairI kB 3 1, pairI kA 1 0] w rfl (fun j u hu => ⟨g, 0, rfl, hb.lt, by rw [Nat.zero_add]; exact hb.cell j hu⟩) (fun h => by cases h) (Nat.le_refl _) (by decide) (fun e he => ?_) (fun e he => ?_) hN).mono ?_
  · simp only [List.mem_cons, List.not_mem_nil, or_false] at he
    rcases he with rfl | rfl
    · exact leaf_at w 0 (by constructor <;> simp [pairI]) (by constructor <;> simp [pairI])
    · exact leaf_at w 0 (by constructor <;> simp [pairI]) (by constructor <;> simp [pairI])
  · simp only [List.mem_cons, List.not_mem_nil, or_false] at he
    rcases he with rfl | rfl <;> simp [pairI, kA, kB, ByteArray.size]
  · rintro e w4 ⟨⟨m, hml, hmp, hms, hor⟩, hb4⟩
    refine ⟨?_, hb4⟩
    rcases hor with ⟨hd, _⟩ | ⟨_, v, hv, rfl⟩
    · exact wakes_yes (f := fLeaf) hml hmp hms (by decide +kernel) (by decide +kernel) hd
    · obtain rfl := two_sorted hml hmp hms (by decide +kernel)
      refine ⟨v, ?_, hv⟩
      rw [show rightV (1 + 1) (⟨6, 0, noStr, [pairI kA 1 0, pairI kB 3 1].map fLeaf, [pairI kA 1 0, pairI kB 3 1].map PairE.key⟩ : ValF (ValN 1)) = true from objAB_right]
      rfl
/-- The second. -/
theorem Tryd_wakeDup (w : World) (g : Nat) (hb : Blk w g (flatE [pairI kA 3 1, pairI kA 3 2]) 56) (hN : GlobAt w 0 [.int .i64 0, .int .i64 0] 143) :
    Calls Tryd.prog 23 #[.slice (some ⟨g, 0, none⟩) 2 2] w fun e w' => e = .returned (.tuple #[.agg zeroL.toArray, .int .i64 141]) ∧ Below w.heap.size w w' := by
  refine (Tryd_Object 1 fLeaf (some ⟨g, 0, none⟩) 2 2 [pairI kA 3 1, pairI kA 3 2] w rfl (fun j u hu => ⟨g, 0, rfl, hb.lt, by rw [Nat.zero_add]; exact hb.cell j hu⟩) (fun h => by cases h) (Nat.le_refl _) (by decide) (fun e he => ?_) (fun e he => ?_) hN).mono ?_
  · simp only [List.mem_cons, List.not_mem_nil, or_false] at he
    rcases he with rfl | rfl
    · exact leaf_at w 0 (by constructor <;> simp [pairI]) (by constructor <;> simp [pairI])
    · exact leaf_at w 0 (by constructor <;> simp [pairI]) (by constructor <;> simp [pairI])
  · simp only [List.mem_cons, List.not_mem_nil, or_false] at he
    rcases he with rfl | rfl <;> simp [pairI, kA, kB, ByteArray.size]
  · rintro e w4 ⟨⟨m, hml, hmp, hms, hor⟩, hb4⟩
    refine ⟨?_, hb4⟩
    rcases hor with ⟨_, rfl⟩ | ⟨hnd, _⟩
    · rfl
    · exact (dup_no hml (two_same (x := pairI kA 3 1) hml hmp fun z hz => by
        simp only [List.mem_cons, List.not_mem_nil, or_false] at hz
        rcases hz with rfl | rfl <;> rfl) hnd).elim

set_option maxRecDepth 8000 in
set_option maxHeartbeats 8000000 in
theorem Tryd_wakes04 (w : World) (hN : GlobAt w 0 [.int .i64 0, .int .i64 0] 143) : Calls Tryd.prog 18 #[] w fun e w' => e = .returned (.bool true) ∧ Below w.heap.size w w' := by
  have HN := Lib.hid hN
  clear hN
  go_enter Tryd.func18, Tryd.ntmps18
  go_wp2_with fail
  refine (Tryd_vInt 1 _).mono ?_; rintro e w1 ⟨rfl, hb1⟩
  go_wp2_with fail
  refine (Tryd_vNull _).mono ?_; rintro e w2 ⟨rfl, hb2⟩
  have BEL2 := Lib.hid (hb1.trans (hb2.mono hb1.size))
  clear hb1 hb2
  go_wp2_with fail
  refine (Tryd_wakeObj _ w2.heap.size (Blk.new _ _ _) (HN.out.ext (BEL2.out.alloc BEL2.out.size _))).mono ?_; rintro e w4 ⟨⟨v, rfl, hv⟩, hb4⟩
  have BEL4 := Lib.hid ((BEL2.out.alloc BEL2.out.size _).trans (hb4.mono (by have := BEL2.out.size; simp; omega)))
  clear hb4
  obtain ⟨ka, kl, kc, qa, ql, qc, h⟩ := hv
  obtain ⟨rfl⟩ : v = .agg #[.int .i64 6, .int .i64 0, .string noStr, .slice ka kl kc, .slice qa ql qc] := h.val
  obtain rfl : 2 = ql := h.keys.hlen
  obtain ⟨b, o, rfl, hlt, hcell⟩ := h.keys.hat 0 kA rfl
  rw [Nat.add_zero] at hcell
  have hv : ValAt w4 2 (.agg #[.int .i64 6, .int .i64 0, .string noStr, .slice ka kl kc, .slice (some ⟨b, o, none⟩) 2 qc]) objAB := ⟨ka, kl, kc, _, _, qc, h⟩
  have hgl : ∀ W, Below w4.heap.size w4 W → GlobAt W 0 [.int .i64 0, .int .i64 0] 143 := fun W hb => HN.out.ext (BEL4.out.trans (hb.mono BEL4.out.size))
  have HDEP := Lib.hid (fun W (hb : Below w4.heap.size w4 W) => by have q := Tryd_vDepth 2 objAB _ W (ValAt.ext hb 2 hv) (hgl W hb); rw [objAB_right, objAB_depth] at q; exact q)
  have HNOD := Lib.hid (fun W (hb : Below w4.heap.size w4 W) => by have q := Tryd_vNodes 2 objAB _ W (ValAt.ext hb 2 hv) (hgl W hb); rw [objAB_right, objAB_nodes] at q; exact q)
  have HGB := Lib.hid (fun W (hb : Below w4.heap.size w4 W) => by have q := Tryd_Get 1 objAB _ kB w4 W hv hb (hgl W hb); rw [objAB_b] at q; exact q)
  have HGC := Lib.hid (fun W (hb : Below w4.heap.size w4 W) => by have q := Tryd_Get 1 objAB _ kC w4 W hv hb (hgl W hb); rw [objAB_c] at q; exact q)
  have HDUP := Lib.hid (fun W g (hb : Below w4.heap.size w4 W) hk => Tryd_wakeDup W g hk (hgl W hb))
  have HTXT := Lib.hid (fun W (hb : Below w4.heap.size w4 W) => by have q := Tryd_vText 0 kE W (by simp [kE, ByteArray.size]) (hgl W hb); rw [textE_right] at q; exact q)
  have HLEN := Lib.hid (fun W (hb : Below w4.heap.size w4 W) => by have q := Tryd_Len 0 (textV 0 kE) _ W (text_at W 0 (by simp [kE, ByteArray.size])) (hgl W hb); rw [textE_len] at q; exact q)
  have HCHK := Lib.hid (fun W (hb : Below w4.heap.size w4 W) => by have q := Tryd_vCheck 1 (leafV 0 0 0) _ W (leaf_at W 0 (by constructor <;> simp) (by constructor <;> simp)) (hgl W hb); rw [zero_wrong] at q; exact q)
  have dA : (kA.toList == [97]) = true := by decide +kernel
  have BX4 := Lib.hid (Below.refl w4.heap.size w4)
  have HB1 := Lib.hid (Blk.new w4 [.int .i64 6, .int .i64 0, .string noStr, .slice ka kl kc, .slice (some ⟨b, o, none⟩) 2 qc] 39)
  clear h hv hgl
  go_wp2_with fail
  refine (HDEP.out _ (by repeat (first | (with_reducible exact Below.refl _ _) | (with_reducible exact Below.refl _ _) | (with_reducible refine Below.setCell ?_ (by first | omega | (simp; done) | (simp; omega)) _) | (with_reducible refine Below.alloc ?_ (by first | omega | (simp; done) | (simp; omega)) _) | (with_reducible refine Below.drew ?_) | (with_reducible refine below_drewN ?_ _)))).mono ?_; rintro e w5 ⟨rfl, hb5⟩
  have BX5 := Lib.hid ((show Below w4.heap.size w4 (w4.alloc _) from (by repeat (first | (with_reducible exact Below.refl _ _) | (with_reducible exact Below.refl _ _) | (with_reducible refine Below.setCell ?_ (by first | omega | (simp; done) | (simp; omega)) _) | (with_reducible refine Below.alloc ?_ (by first | omega | (simp; done) | (simp; omega)) _) | (with_reducible refine Below.drew ?_) | (with_reducible refine below_drewN ?_ _)))).trans (hb5.mono (by simp)))
  have HB5 := Lib.hid (HB1.out.ext hb5)
  have q1 := HB5.out.cells
  have l1 := HB5.out.lt
  clear hb5 HB1
  go_wp2_with fail
  refine (HNOD.out _ BX5.out).mono ?_; rintro e w6 ⟨rfl, hb6⟩
  have BX6 := Lib.hid (BX5.out.trans (hb6.mono BX5.out.size))
  have HB6 := Lib.hid (HB5.out.ext hb6)
  have q1 := HB6.out.cells
  have l1 := HB6.out.lt
  clear hb6 HB5 BX5 hcell hlt dA
  go_wp2_with fail
  refine (HGB.out _ BX6.out).mono ?_; rintro e w7 ⟨⟨u, rfl, hu⟩, hb7⟩
  obtain ⟨u, rfl, a1, l1', c1, a2, l2', c2, hu⟩ := (show ∃ u, _ ∧ _ from hu)
  obtain ⟨rfl⟩ : u = .agg #[.int .i64 3, .int .i64 1, .string noStr, .slice a1 l1' c1, .slice a2 l2' c2] := hu.1
  have BX7 := Lib.hid (BX6.out.trans (hb7.mono BX6.out.size))
  have HB7 := Lib.hid (HB6.out.ext hb7)
  have q1 := HB7.out.cells
  have l1 := HB7.out.lt
  have HB8 := Lib.hid (Blk.new w7 [.int .i64 3, .int .i64 1, .string noStr, .slice a1 l1' c1, .slice a2 l2' c2] 39)
  have HB7' := Lib.hid (HB7.out.alloc (.cells #[.int .i64 3, .int .i64 1, .string noStr, .slice a1 l1' c1, .slice a2 l2' c2] 39))
  clear hb7 HB6 BX6 hu
  go_wp2_with fail
  refine (HGC.out _ (by have h := BX7.out; have s := h.size; exact (by repeat (first | (with_reducible exact Below.refl _ _) | (with_reducible exact Below.refl _ _) | (with_reducible refine Below.setCell ?_ (by first | omega | (simp; done) | (simp; omega)) _) | (with_reducible refine Below.alloc ?_ (by first | omega | (simp; done) | (simp; omega)) _) | (with_reducible refine Below.drew ?_) | (with_reducible refine below_drewN ?_ _) | (with_reducible refine Below.trans ?_ (h.mono (by first | omega | (simp; done) | (simp; omega)))))))).mono ?_; rintro e w8 ⟨⟨u, rfl, hu⟩, hb8⟩
  obtain rfl := (show u = .tuple #[.agg zeroL.toArray, .bool false] from hu)
  simp only [zeroL]
  have BX8 := Lib.hid ((show Below w4.heap.size w4 (w7.alloc _) from (by have h := BX7.out; have s := h.size; exact (by repeat (first | (with_reducible exact Below.refl _ _) | (with_reducible exact Below.refl _ _) | (with_reducible refine Below.setCell ?_ (by first | omega | (simp; done) | (simp; omega)) _) | (with_reducible refine Below.alloc ?_ (by first | omega | (simp; done) | (simp; omega)) _) | (with_reducible refine Below.drew ?_) | (with_reducible refine below_drewN ?_ _) | (with_reducible refine Below.trans ?_ (h.mono (by first | omega | (simp; done) | (simp; omega)))))))).trans (hb8.mono (by have := BX7.out.size; simp; omega)))
  have HB3 := Lib.hid (HB8.out.ext hb8)
  have hs8 := hb8.size
  clear hb8 HB7 BX7 hu HB7' HB8 q1 l1
  simp only [World.size_alloc] at hs8
  go_wp2_with fail
  refine (Tryd_vInt 1 _).mono ?_; rintro e w9 ⟨rfl, hb9⟩
  go_wp2_with fail
  refine (Tryd_vInt 2 _).mono ?_; rintro e w10 ⟨rfl, hb10⟩
  have b8 : Below w8.heap.size w8 (w8.alloc (.cells #[.int .i64 0, .int .i64 0, .string ⟨#[]⟩, .slice none 0 0, .slice none 0 0] 39)) := (by repeat (first | (with_reducible exact Below.refl _ _) | (with_reducible exact Below.refl _ _) | (with_reducible refine Below.setCell ?_ (by first | omega | (simp; done) | (simp; omega)) _) | (with_reducible refine Below.alloc ?_ (by first | omega | (simp; done) | (simp; omega)) _) | (with_reducible refine Below.drew ?_) | (with_reducible refine below_drewN ?_ _)))
  have b10 := (b8.trans (hb9.mono b8.size)).trans (hb10.mono (Nat.le_trans b8.size hb9.size))
  have BX10 := Lib.hid (BX8.out.trans (b10.mono BX8.out.size))
  have HB10 := Lib.hid (HB3.out.ext b10)
  clear hb9 hb10 b8 b10 BX8 HB3
  go_wp2_with fail
  refine (HDUP.out _ w10.heap.size (by have h := BX10.out; have s := h.size; exact (by repeat (first | (with_reducible exact Below.refl _ _) | (with_reducible exact Below.refl _ _) | (with_reducible refine Below.setCell ?_ (by first | omega | (simp; done) | (simp; omega)) _) | (with_reducible refine Below.alloc ?_ (by first | omega | (simp; done) | (simp; omega)) _) | (with_reducible refine Below.drew ?_) | (with_reducible refine below_drewN ?_ _) | (with_reducible refine Below.trans ?_ (h.mono (by first | omega | (simp; done) | (simp; omega))))))) (Blk.new _ _ _)).mono ?_; rintro e w11 ⟨rfl, hb11⟩
  simp only [zeroL]
  have BX11 := Lib.hid ((show Below w4.heap.size w4 (w10.alloc _) from (by have h := BX10.out; have s := h.size; exact (by repeat (first | (with_reducible exact Below.refl _ _) | (with_reducible exact Below.refl _ _) | (with_reducible refine Below.setCell ?_ (by first | omega | (simp; done) | (simp; omega)) _) | (with_reducible refine Below.alloc ?_ (by first | omega | (simp; done) | (simp; omega)) _) | (with_reducible refine Below.drew ?_) | (with_reducible refine below_drewN ?_ _) | (with_reducible refine Below.trans ?_ (h.mono (by first | omega | (simp; done) | (simp; omega)))))))).trans (hb11.mono (by have := BX10.out.size; simp; omega)))
  have HB11 := Lib.hid ((HB10.out.alloc (.cells (flatE [pairI kA 3 1, pairI kA 3 2]).toArray 56)).ext hb11)
  clear hb11 HB10 BX10
  go_wp2_with fail
  refine (HTXT.out _ (by have h := BX11.out; have s := h.size; exact (by repeat (first | (with_reducible exact Below.refl _ _) | (with_reducible exact Below.refl _ _) | (with_reducible refine Below.setCell ?_ (by first | omega | (simp; done) | (simp; omega)) _) | (with_reducible refine Below.alloc ?_ (by first | omega | (simp; done) | (simp; omega)) _) | (with_reducible refine Below.drew ?_) | (with_reducible refine below_drewN ?_ _) | (with_reducible refine Below.trans ?_ (h.mono (by first | omega | (simp; done) | (simp; omega)))))))).mono ?_; rintro e w12 ⟨rfl, hb12⟩
  rw [show ∀ v, wholeV true v = .tuple #[v, .int .i64 0] from fun v => rfl]
  have BX12 := Lib.hid ((show Below w4.heap.size w4 (w11.alloc _) from (by have h := BX11.out; have s := h.size; exact (by repeat (first | (with_reducible exact Below.refl _ _) | (with_reducible exact Below.refl _ _) | (with_reducible refine Below.setCell ?_ (by first | omega | (simp; done) | (simp; omega)) _) | (with_reducible refine Below.alloc ?_ (by first | omega | (simp; done) | (simp; omega)) _) | (with_reducible refine Below.drew ?_) | (with_reducible refine below_drewN ?_ _) | (with_reducible refine Below.trans ?_ (h.mono (by first | omega | (simp; done) | (simp; omega)))))))).trans (hb12.mono (by have := BX11.out.size; simp; omega)))
  have HB12 := Lib.hid ((HB11.out.alloc (.cells #[.int .i64 0, .int .i64 0, .string ⟨#[]⟩, .slice none 0 0, .slice none 0 0] 39)).ext hb12)
  clear hb12 HB11 BX11
  go_wp2_with fail
  refine (HLEN.out _ (by have h := BX12.out; have s := h.size; exact (by repeat (first | (with_reducible exact Below.refl _ _) | (with_reducible exact Below.refl _ _) | (with_reducible refine Below.setCell ?_ (by first | omega | (simp; done) | (simp; omega)) _) | (with_reducible refine Below.alloc ?_ (by first | omega | (simp; done) | (simp; omega)) _) | (with_reducible refine Below.drew ?_) | (with_reducible refine below_drewN ?_ _) | (with_reducible refine Below.trans ?_ (h.mono (by first | omega | (simp; done) | (simp; omega)))))))).mono ?_; rintro e w13 ⟨rfl, hb13⟩
  have BX13 := Lib.hid ((show Below w4.heap.size w4 (w12.alloc _) from (by have h := BX12.out; have s := h.size; exact (by repeat (first | (with_reducible exact Below.refl _ _) | (with_reducible exact Below.refl _ _) | (with_reducible refine Below.setCell ?_ (by first | omega | (simp; done) | (simp; omega)) _) | (with_reducible refine Below.alloc ?_ (by first | omega | (simp; done) | (simp; omega)) _) | (with_reducible refine Below.drew ?_) | (with_reducible refine below_drewN ?_ _) | (with_reducible refine Below.trans ?_ (h.mono (by first | omega | (simp; done) | (simp; omega)))))))).trans (hb13.mono (by have := BX12.out.size; simp; omega)))
  have HB13 := Lib.hid ((HB12.out.alloc (.cells #[.int .i64 4, .int .i64 0, .string kE, .slice none 0 0, .slice none 0 0] 39)).ext hb13)
  have q3 := HB13.out.cells
  have l3 := HB13.out.lt
  clear hb13 HB12 BX12
  go_wp2_with fail
  refine (HCHK.out _ BX13.out).mono ?_; rintro e w14 ⟨rfl, hb14⟩
  have BX14 := Lib.hid (BX13.out.trans (hb14.mono BX13.out.size))
  clear hb14
  go_wp2
  go_ret
  exact ⟨rfl, BEL4.out.trans (BX14.out.mono BEL4.out.size)⟩
end Go.Proofs.YtmcmknndhppljaaDoor
