/-
  Layer 10: how many bytes a file has, and whether it may be: length, Check, Len, and the reference's Long and Right, walked.
  Layer 10: bytes of slices held against one another: the reference's bytes, bytes.Equal, slices.Equal, slices.EqualFunc, walked; slices.Clone.
  The sum by which damage is seen, in plain: bit by bit; the program's own steps, walked.
  The sum by which damage is seen: the reference's steps, walked: they come to the same sum.
  Layer 10: Len, and the reference's Long and Right, walked.
  Layer 10: whole files held against one another: slices.EqualFunc, Same, and the reference's Same, walked.
  Layer 10: what is asked ahead of an operation: off, room, refused, burns, walked.
  Layer 10: operation, walked: what is asked, and what is then done.
  Slices of one-cell elements: what they hold; append to one that is full, or to a row of the call's own, from whatever slice.
  Layer 10: copies: slices.Clone; the reference's All, walked.
  A sum laid in four bytes behind what it is of: the program's Lay, the reference's Laid, walked.
-/
import Derived.Test.YthpdcbklaapngaaProg
import Derived.Test.YthpdcbklaapngaaHeaderTornA
import Derived.WalkKit
import Derived.WalkSpells
import Derived.WalkLawsBesides
import Derived.BigQuiet
import Derived.Lib.Hide
import Derived.Laws.AppendOwnNone
import Derived.ArgAppend
import Derived.Deep.MidRow
import Derived.Laws.IdiomStrings
import Derived.Lib.BufferRead
import Derived.Laws.BitsLemmas
import Derived.Laws.EntriesVeiled
import Derived.Deep.DeepCutAuto
import Derived.IntWalk
import Derived.LoopN
import Derived.Deep.Upon
import Derived.Laws.OwnMore
import Derived.Tactics
import Derived.OwnWalk
import Derived.Laws.CopyOwn
import Derived.Laws.MakeOwn
namespace Go.Proofs.Ythpdcbklaapngaa
set_option linter.unusedVariables false
set_option linter.unusedSimpArgs false
open Go.RowKit Go.Dav
attribute [local go_sem] Gives ite_val ite_val_true

def TryLenRel (w : World) (F : FileD) (fl : Nat) (cs : List Value) (ix n : Value) (wr : World) : Prop :=
  ∃ k m : Nat, k ≤ F.loose.length ∧ m = fl + sumTo F.loose k ∧ ix = .int .i64 k ∧ n = .int .i64 m ∧ ((F.loose.take k).all fun p => !p.isEmpty) = true ∧ (0 < k → fl + sumTo F.loose k ≤ 524288) ∧
    wr = w.alloc (.cells cs.toArray 27)

set_option maxRecDepth 8000 in
set_option maxHeartbeats 4000000 in
theorem Try_length (F : FileD) (fa la : Option Addr) (fl fc ll lc : Nat) (w : World) (hF : FileAt w fa fl fc la ll lc F) :
    Calls Try.prog 19 #[.agg #[.slice fa fl fc, .slice la ll lc, .int .i64 F.fuse, .int .i64 F.fault, .bool F.off]] w fun e w' => e = .returned (.int .i64 F.len) ∧ Below w.heap.size w w' := by
  have e1 := hF.loose.hlen
  have e2 := hF.firm.hlen
  have b1 := hF.loose.hfew
  have b2 := hF.firm.hfew
  have b3 : (fl : Int) ≤ 140737488355328 := by omega
  have HAT := Lib.hid hF; clear hF
  have H1 := Lib.hid e1; clear e1
  have H2 := Lib.hid e2; clear e2
  go_enter Try.func19, Try.ntmps19
  go_wp2_with fail
  go_loopw [12, 3] (fun ix n wr => TryLenRel w F fl [.slice fa fl fc, .slice la ll lc, .int .i64 F.fuse, .int .i64 F.fault, .bool F.off] ix n wr) (fun ix _ _ => ll - (intOf ix).toNat)
  case atStart => exact ⟨0, fl, Nat.zero_le _, by rw [sumTo_zero]; rfl, rfl, rfl, by simp, fun h => by omega, rfl⟩
  case round =>
    obtain ⟨k, m, hk, hm, rfl, rfl, hfull, hle, rfl⟩ := hrel
    have hmm : (m : Int) ≤ 140737488355328 := by
      by_cases h0 : 0 < k
      · have := hle h0; omega
      · have : k = 0 := by omega
        subst this; rw [sumTo_zero] at hm; omega
    have hmono := sumTo_mono F.loose k
    have HM := Lib.hid hm
    have HFU := Lib.hid hfull
    have HLE := Lib.hid hle
    have HMO := Lib.hid hmono
    have hk2 : k ≤ ll := by have := H1.out; omega
    clear hm hfull hle hmono
    by_cases hlt : k < F.loose.length
    · obtain ⟨p, hp⟩ : ∃ p, F.loose[k]? = some p := ⟨_, List.getElem?_eq_getElem hlt⟩
      obtain ⟨b, o, pa, pl, pc, rfl, hb, hc, hP⟩ := HAT.out.loose.hat k p hp
      have hpl := hP.hlen
      have hpf := hP.hfew
      have hp2 : (pl : Int) ≤ 140737488355328 := by omega
      have HS := Lib.hid (sumTo_succ hp)
      have HT := Lib.hid (full_take hp)
      have HP := Lib.hid hpl
      have HPP := Lib.hid hp
      have hkl : (k : Int) < (ll : Int) := by have := H1.out; omega
      have HLT := Lib.hid hlt
      clear hp hlt hP hpl hk
      by_cases h0 : pl = 0
      · subst h0
        have hval : F.len = -1 := by
          unfold FileD.len FileD.full
          rw [if_neg]
          intro h
          have := List.all_eq_true.1 h.1 p (List.mem_of_getElem? HPP.out)
          have hnil : p = [] := List.length_eq_zero_iff.1 HP.out
          rw [hnil] at this; cases this
        have HV := Lib.hid hval; clear hval
        go_wp2
        go_ret
        exact ⟨ret_int HV.out.symm, (by repeat (first | (with_reducible exact Below.refl _ _) | (with_reducible exact Below.refl _ _) | (with_reducible refine Below.setCell ?_ (by first | omega | (simp; done) | (simp; omega)) _) | (with_reducible refine Below.alloc ?_ (by first | omega | (simp; done) | (simp; omega)) _) | (with_reducible refine Below.drew ?_) | (with_reducible refine below_drewN ?_ _)))⟩
      · have h0' : ((pl : Int) == 0) = false := by simp; omega
        by_cases h5 : (m : Int) + pl ≤ 524288
        · go_wp2
          go_roundw
          case rel =>
            have := HM.out
            have := HS.out
            have := HP.out
            exact ⟨k + 1, m + pl, HLT.out, by omega, by go_num, by go_num, by rw [HT.out, HFU.out]; cases p with | nil => simp at this; omega | cons => rfl, fun _ => by omega, rfl⟩
          case measure => simp [intOf]; omega
        · have h6 : (524288 : Int) < (m : Int) + pl := by omega
          have hval : F.len = -1 := by
            unfold FileD.len
            rw [if_neg]
            intro h
            have h1 := h.2
            unfold FileD.many at h1
            have h2 := sumTo_mono F.loose (k + 1)
            have := HM.out
            have := HS.out
            have := HP.out
            have := H2.out
            omega
          have HV := Lib.hid hval; clear hval
          go_wp2
          go_ret
          exact ⟨ret_int HV.out.symm, (by repeat (first | (with_reducible exact Below.refl _ _) | (with_reducible exact Below.refl _ _) | (with_reducible refine Below.setCell ?_ (by first | omega | (simp; done) | (simp; omega)) _) | (with_reducible refine Below.alloc ?_ (by first | omega | (simp; done) | (simp; omega)) _) | (with_reducible refine Below.drew ?_) | (with_reducible refine below_drewN ?_ _)))⟩
    · have hkl : k = F.loose.length := by omega
      have hk3 : ¬ ((k : Int) < (ll : Int)) := by have := H1.out; omega
      have hmany : F.many = m := by
        have := HM.out
        have := H2.out
        unfold FileD.many
        rw [hkl, sumTo_all] at *
        omega
      have hf : F.full = true := by
        have h := HFU.out
        rw [hkl, List.take_length] at h
        exact h
      have HMA := Lib.hid hmany; clear hmany
      clear hkl hk hlt
      by_cases h5 : (m : Int) ≤ 524288
      · have hval : F.len = (m : Int) := by
          unfold FileD.len
          rw [if_pos ⟨hf, by rw [HMA.out]; omega⟩, HMA.out]
        have HV := Lib.hid hval; clear hval hf
        go_wp2
        go_ret
        exact ⟨ret_int HV.out.symm, (by repeat (first | (with_reducible exact Below.refl _ _) | (with_reducible exact Below.refl _ _) | (with_reducible refine Below.setCell ?_ (by first | omega | (simp; done) | (simp; omega)) _) | (with_reducible refine Below.alloc ?_ (by first | omega | (simp; done) | (simp; omega)) _) | (with_reducible refine Below.drew ?_) | (with_reducible refine below_drewN ?_ _)))⟩
      · have h6 : (524288 : Int) < (m : Int) := by omega
        have hval : F.len = -1 := by
          unfold FileD.len
          rw [if_neg (fun h => by have := h.2; rw [HMA.out] at this; omega)]
        have HV := Lib.hid hval; clear hval hf
        go_wp2
        go_ret
        exact ⟨ret_int HV.out.symm, (by repeat (first | (with_reducible exact Below.refl _ _) | (with_reducible exact Below.refl _ _) | (with_reducible refine Below.setCell ?_ (by first | omega | (simp; done) | (simp; omega)) _) | (with_reducible refine Below.alloc ?_ (by first | omega | (simp; done) | (simp; omega)) _) | (with_reducible refine Below.drew ?_) | (with_reducible refine below_drewN ?_ _)))⟩

set_option maxRecDepth 8000 in
set_option maxHeartbeats 4000000 in
theorem Try_Check (F : FileD) (fa la : Option Addr) (fl fc ll lc : Nat) (w : World) (hF : FileAt w fa fl fc la ll lc F) :
    Calls Try.prog 18 #[.agg #[.slice fa fl fc, .slice la ll lc, .int .i64 F.fuse, .int .i64 F.fault, .bool F.off]] w fun e w' => e = .returned (.int .i64 F.err) ∧ Below w.heap.size w w' := by
  have hF' := hF.ext ((Below.refl _ w).alloc (Nat.le_refl _) (.cells #[.slice fa fl fc, .slice la ll lc, .int .i64 F.fuse, .int .i64 F.fault, .bool F.off] 27))
  have HAT := Lib.hid hF'; clear hF' hF
  have hrl := @FileD.right_len F
  by_cases h1 : F.fuse < -1
  · have hval : F.err = 200 := by unfold FileD.err; rw [if_neg]; rw [hrl]; omega
    have HV := Lib.hid hval; clear hval hrl
    go_enter Try.func18, Try.ntmps18
    go_wp2
    go_ret
    exact ⟨ret_int HV.out.symm, (by repeat (first | (with_reducible exact Below.refl _ _) | (with_reducible exact Below.refl _ _) | (with_reducible refine Below.setCell ?_ (by first | omega | (simp; done) | (simp; omega)) _) | (with_reducible refine Below.alloc ?_ (by first | omega | (simp; done) | (simp; omega)) _) | (with_reducible refine Below.drew ?_) | (with_reducible refine below_drewN ?_ _)))⟩
  · by_cases h2 : F.fault < -1
    · have hval : F.err = 200 := by unfold FileD.err; rw [if_neg]; rw [hrl]; omega
      have HV := Lib.hid hval; clear hval hrl
      go_enter Try.func18, Try.ntmps18
      go_wp2
      go_ret
      exact ⟨ret_int HV.out.symm, (by repeat (first | (with_reducible exact Below.refl _ _) | (with_reducible exact Below.refl _ _) | (with_reducible refine Below.setCell ?_ (by first | omega | (simp; done) | (simp; omega)) _) | (with_reducible refine Below.alloc ?_ (by first | omega | (simp; done) | (simp; omega)) _) | (with_reducible refine Below.drew ?_) | (with_reducible refine below_drewN ?_ _)))⟩
    · by_cases h3 : F.off = true ∧ F.fuse ≠ -1
      · obtain ⟨h3, h4⟩ := h3
        have hval : F.err = 200 := by unfold FileD.err; rw [if_neg]; rw [hrl]; intro h; exact h4 (h.2.2.1 h3)
        have HV := Lib.hid hval; clear hval hrl
        have h4' : (F.fuse != -1) = true := by simpa using h4
        rw [h3] at HAT ⊢
        go_enter Try.func18, Try.ntmps18
        go_wp2
        go_ret
        exact ⟨ret_int HV.out.symm, (by repeat (first | (with_reducible exact Below.refl _ _) | (with_reducible exact Below.refl _ _) | (with_reducible refine Below.setCell ?_ (by first | omega | (simp; done) | (simp; omega)) _) | (with_reducible refine Below.alloc ?_ (by first | omega | (simp; done) | (simp; omega)) _) | (with_reducible refine Below.drew ?_) | (with_reducible refine below_drewN ?_ _)))⟩
      · have hval : F.err = if F.len < 0 then 200 else 0 := by
          unfold FileD.err
          by_cases h5 : F.len < 0
          · rw [if_pos h5, if_neg]; rw [hrl]; omega
          · rw [if_neg h5, if_pos]; rw [hrl]
            refine ⟨by omega, by omega, fun h => ?_, by omega⟩
            apply Classical.byContradiction
            intro h6
            exact h3 ⟨h, h6⟩
        have HV := Lib.hid hval; clear hval hrl
        cases hoff : F.off with
        | true =>
          have h4 : F.fuse = -1 := by
            apply Classical.byContradiction
            intro h6
            exact h3 ⟨hoff, h6⟩
          have h4' : (F.fuse != -1) = false := by simp [h4]
          rw [hoff] at HAT
          clear h4 h3
          go_enter Try.func18, Try.ntmps18
          go_wp2_with fail
          have hL := Try_length F fa la fl fc ll lc _ (by rw [← hoff] at HAT; exact HAT.out)
          rw [hoff] at hL
          refine hL.mono ?_; rintro e w1 ⟨rfl, hb1⟩
          clear hL
          by_cases h5 : F.len < 0
          · go_wp2
            go_ret
            exact ⟨ret_int (HV.out.trans (if_pos (by omega))).symm, (by repeat (first | (with_reducible exact Below.refl _ _) | (with_reducible exact Below.refl _ _) | (with_reducible refine Below.setCell ?_ (by first | omega | (simp; done) | (simp; omega)) _) | (with_reducible refine Below.alloc ?_ (by first | omega | (simp; done) | (simp; omega)) _) | (with_reducible refine Below.drew ?_) | (with_reducible refine below_drewN ?_ _) | (with_reducible refine Below.trans ?_ (hb1.mono (by first | omega | (simp; done) | (simp; omega))))))⟩
          · go_wp2
            go_ret
            exact ⟨ret_int (HV.out.trans (if_neg (by omega))).symm, (by repeat (first | (with_reducible exact Below.refl _ _) | (with_reducible exact Below.refl _ _) | (with_reducible refine Below.setCell ?_ (by first | omega | (simp; done) | (simp; omega)) _) | (with_reducible refine Below.alloc ?_ (by first | omega | (simp; done) | (simp; omega)) _) | (with_reducible refine Below.drew ?_) | (with_reducible refine below_drewN ?_ _) | (with_reducible refine Below.trans ?_ (hb1.mono (by first | omega | (simp; done) | (simp; omega))))))⟩
        | false =>
          rw [hoff] at HAT
          clear h3
          go_enter Try.func18, Try.ntmps18
          go_wp2_with fail
          have hL := Try_length F fa la fl fc ll lc _ (by rw [← hoff] at HAT; exact HAT.out)
          rw [hoff] at hL
          refine hL.mono ?_; rintro e w1 ⟨rfl, hb1⟩
          clear hL
          by_cases h5 : F.len < 0
          · go_wp2
            go_ret
            exact ⟨ret_int (HV.out.trans (if_pos (by omega))).symm, (by repeat (first | (with_reducible exact Below.refl _ _) | (with_reducible exact Below.refl _ _) | (with_reducible refine Below.setCell ?_ (by first | omega | (simp; done) | (simp; omega)) _) | (with_reducible refine Below.alloc ?_ (by first | omega | (simp; done) | (simp; omega)) _) | (with_reducible refine Below.drew ?_) | (with_reducible refine below_drewN ?_ _) | (with_reducible refine Below.trans ?_ (hb1.mono (by first | omega | (simp; done) | (simp; omega))))))⟩
          · go_wp2
            go_ret
            exact ⟨ret_int (HV.out.trans (if_neg (by omega))).symm, (by repeat (first | (with_reducible exact Below.refl _ _) | (with_reducible exact Below.refl _ _) | (with_reducible refine Below.setCell ?_ (by first | omega | (simp; done) | (simp; omega)) _) | (with_reducible refine Below.alloc ?_ (by first | omega | (simp; done) | (simp; omega)) _) | (with_reducible refine Below.drew ?_) | (with_reducible refine below_drewN ?_ _) | (with_reducible refine Below.trans ?_ (hb1.mono (by first | omega | (simp; done) | (simp; omega))))))⟩
end Go.Proofs.Ythpdcbklaapngaa

namespace Go.Proofs.Ythpdcbklaapngaa
set_option linter.unusedVariables false
set_option linter.unusedSimpArgs false
open Go.RowKit Go.Dav
attribute [local go_sem] Gives ite_val ite_val_true

theorem conv_bytes {P : Program} {W : World} {a : Option Addr} {len cap : Nat} {l : List UInt8} (h : BytesAt W a len cap l) (src dst e : TypeId) (hs : P.underlying src = some (.slice e)) (he : P.underlying e = some (.int .u8)) (hd : P.underlying dst = some .string) :
    (convert src dst (.slice a len cap)).run P W = .ok (.string ⟨l.toArray⟩) W := by
  obtain ⟨h1, h2, h3, h4, h5, h6⟩ := h
  subst h1
  cases a with
  | none =>
    have h0 := h6 rfl
    have hl : l = [] := List.length_eq_zero_iff.1 (by omega)
    subst hl
    exact Lib.run_convert_nil_bytes W src dst e cap hs he hd
  | some a =>
    cases l with
    | nil =>
      refine run_convert_bytes_back W src dst e a cap [] hs he hd ?_
      intro j hj
      simp at hj
    | cons c l =>
      obtain ⟨b, o, e0, _, _⟩ := h5 0 c rfl
      cases e0
      refine run_convert_bytes_back W src dst e _ cap (c :: l) hs he hd ?_
      intro j hj
      obtain ⟨b', o', e1, _, hc⟩ := h5 j _ (List.getElem?_eq_getElem hj)
      cases e1
      rw [Addr.add_mid]
      exact hc

theorem list_beq (x y : List UInt8) : (x == y) = decide (x = y) := by
  rw [Bool.eq_iff_iff]; simp

def TryEqRel (w : World) (x y : List UInt8) (ix : Value) (wr : World) : Prop :=
  ∃ k : Nat, k ≤ x.length ∧ ix = .int .i64 k ∧ x.take k = y.take k ∧ Below w.heap.size w wr

theorem take_succ_eq {x y : List UInt8} {k : Nat} {c d : UInt8} (h : x.take k = y.take k) (hx : x[k]? = some c) (hy : y[k]? = some d) : x.take (k + 1) = y.take (k + 1) ↔ c = d := by
  rw [List.take_add_one, List.take_add_one, hx, hy, h]
  simp
theorem u8_ne {c d : UInt8} : ((c.toNat : Int) != (d.toNat : Int)) = !decide (c = d) := by
  rw [Bool.eq_iff_iff]
  simp only [bne_iff_ne, ne_eq, Bool.not_eq_true', decide_eq_false_iff_not]
  rw [Int.natCast_inj, UInt8.toNat_inj]

end Go.Proofs.Ythpdcbklaapngaa

namespace Go.Dav
set_option linter.unusedVariables false
set_option linter.unusedSimpArgs false
open Go Go.RowKit

def crcBit (s : Nat) : Nat := if s % 2 = 1 then s / 2 ^^^ 2197175160 else s / 2
def crcBits : Nat → Nat → Nat
  | 0, s => s
  | k + 1, s => crcBit (crcBits k s)
def crcByte (s c : Nat) : Nat := crcBits 8 (s ^^^ c)
def crcOf (s : Nat) (l : List UInt8) : Nat := l.foldl (fun s c => crcByte s c.toNat) s
theorem crcOf_snoc (s : Nat) (l : List UInt8) (c : UInt8) : crcOf s (l ++ [c]) = crcByte (crcOf s l) c.toNat := by simp [crcOf]
theorem crcOf_append (s : Nat) (l m : List UInt8) : crcOf s (l ++ m) = crcOf (crcOf s l) m := by simp [crcOf]
theorem xor_lt {a b : Nat} (ha : a < 4294967296) (hb : b < 4294967296) : a ^^^ b < 4294967296 := Nat.xor_lt_two_pow (n := 32) ha hb
theorem crcBit_lt {s : Nat} (h : s < 4294967296) : crcBit s < 4294967296 := by
  unfold crcBit
  split
  · exact xor_lt (by omega) (by decide)
  · omega
theorem crcBits_lt {s : Nat} (h : s < 4294967296) : ∀ k, crcBits k s < 4294967296
  | 0 => h
  | k + 1 => crcBit_lt (crcBits_lt h k)
theorem crcByte_lt {s c : Nat} (h : s < 4294967296) (hc : c < 256) : crcByte s c < 4294967296 := crcBits_lt (xor_lt h (by omega)) 8
theorem crcOf_lt {s : Nat} (h : s < 4294967296) : ∀ l : List UInt8, crcOf s l < 4294967296 := by
  intro l
  induction l generalizing s with
  | nil => exact h
  | cons c l ih => exact ih (crcByte_lt h c.toNat_lt)
theorem bits_xor_nat (k : IntKind) (j : Nat) (hj : j ≤ k.bits) (hk : ∀ n : Int, 0 ≤ n → n < 2 ^ j → k.wrap n = n) (a b : Nat) (ha : a < 2 ^ j) (hb : b < 2 ^ j) : bits .xor k a b = ((a ^^^ b : Nat) : Int) := by
  have hp : 2 ^ j ≤ 2 ^ k.bits := Nat.pow_le_pow_right (by decide) hj
  have ha' : a % 2 ^ k.bits = a := Nat.mod_eq_of_lt (Nat.lt_of_lt_of_le ha hp)
  have hb' : b % 2 ^ k.bits = b := Nat.mod_eq_of_lt (Nat.lt_of_lt_of_le hb hp)
  simp only [bits, BitVec.ofInt_natCast, BitVec.toNat_xor, BitVec.toNat_ofNat, ha', hb']
  exact hk _ (Int.natCast_nonneg _) (by exact_mod_cast Nat.xor_lt_two_pow ha hb)
theorem bits_xor_u32 {a b : Nat} (ha : a < 4294967296) (hb : b < 4294967296) : bits .xor .u32 (a : Int) (b : Int) = ((a ^^^ b : Nat) : Int) :=
  bits_xor_nat .u32 32 (by decide) (fun n h0 h1 => by rw [IntKind.wrap_u32]; omega) a b ha hb
theorem bits_and_one {a : Nat} (ha : a < 4294967296) : bits .and .u32 (a : Int) 1 = ((a % 2 : Nat) : Int) := by
  have h := (bits_nat .u32 32 (by decide) (fun n h0 h1 => by rw [IntKind.wrap_u32]; omega) a 1 ha (by decide)).1
  rw [Nat.and_one_is_mod] at h
  exact h
theorem bits_poly {a : Nat} (ha : a < 4294967296) : bits .xor .u32 ((a : Int) / 2) 2197175160 = ((a / 2 ^^^ 2197175160 : Nat) : Int) := by
  have h := bits_xor_u32 (a := a / 2) (b := 2197175160) (by omega) (by decide)
  rw [show ((a / 2 : Nat) : Int) = (a : Int) / 2 by omega] at h
  exact h
theorem xor_ones {s : Nat} (h : s < 4294967296) : 4294967295 ^^^ s = 4294967295 - s := by
  have h1 : (BitVec.allOnes 32 ^^^ BitVec.ofNat 32 s).toNat = 4294967295 ^^^ s := by
    rw [BitVec.toNat_xor, BitVec.toNat_allOnes, BitVec.toNat_ofNat, Nat.mod_eq_of_lt (show s < 2 ^ 32 from h)]
  rw [← h1, BitVec.allOnes_xor, BitVec.toNat_not, BitVec.toNat_ofNat, Nat.mod_eq_of_lt (show s < 2 ^ 32 from h)]
theorem bits_ones {s : Nat} (h : s < 4294967296) : bits .xor .u32 IntKind.u32.max (s : Int) = ((4294967295 - s : Nat) : Int) := by
  rw [show IntKind.u32.max = ((4294967295 : Nat) : Int) from rfl, bits_xor_u32 (by decide) h, xor_ones h]
end Go.Dav
namespace Go.Proofs.Ythpdcbklaapngaa
set_option linter.unusedVariables false
set_option linter.unusedSimpArgs false
open Go.RowKit Go.Dav
attribute [local go_sem] Gives ite_val ite_val_true

set_option maxRecDepth 8000 in
set_option maxHeartbeats 4000000 in
theorem Try_takes (s c p : Nat) (hs : s < 4294967296) (hc : c < 256) (w : World) (hp : Blk w p [.int .u32 (s : Int)] 97) :
    Calls Try.prog 45 #[.pointer (some ⟨p, 0, none⟩), .int .u8 (c : Int)] w fun e w' => e = .returned (.tuple #[]) ∧ Blk w' p [.int .u32 (crcByte s c : Int)] 97 ∧ Only p w w' := by
  have q := hp.cells
  have m := hp.marks
  have l := hp.lt
  have hx := bits_xor_u32 hs (show c < 4294967296 by omega)
  have hxl := xor_lt hs (show c < 4294967296 by omega)
  have HP := Lib.hid hp
  have HXL := Lib.hid hxl
  clear hp hxl
  go_enter Try.func45, Try.ntmps45
  go_wp2_with fail
  go_loopg [16] 8 (fun g ix wr => ∃ k : Nat, k ≤ 8 ∧ g = 8 - k ∧ ix = .int .i64 k ∧ Blk wr p [.int .u32 (crcBits k (s ^^^ c) : Int)] 97 ∧ Only p w wr)
  case atStart => exact ⟨0, by omega, rfl, rfl, HP.out.set 0 _, (by repeat (first | (with_reducible exact Only.refl _ _) | (with_reducible refine Only.set ?_ _ _) | (with_reducible refine Only.alloc ?_ _) | (with_reducible refine Only.drew ?_)))⟩
  case round =>
    obtain ⟨k, hk, rfl, rfl, hb, ho⟩ := hrel
    have hlt := crcBits_lt HXL.out k
    obtain ⟨x, hx1⟩ : ∃ x, crcBits k (s ^^^ c) = x := ⟨_, rfl⟩
    rw [hx1] at hb hlt
    have HX1 := Lib.hid hx1
    have qk := hb.cells
    have mk := hb.marks
    have lk := hb.lt
    have HB := Lib.hid hb
    have HO := Lib.hid ho
    clear hb ho hx1 q m l hx
    by_cases h8 : k < 8
    · have h8' : (k : Int) < 8 := by omega
      have ha := bits_and_one hlt
      have hp := bits_poly hlt
      by_cases h1 : x % 2 = 1
      · have hv : crcBits (k + 1) (s ^^^ c) = x / 2 ^^^ 2197175160 := by
          show crcBit (crcBits k (s ^^^ c)) = _
          rw [HX1.out]; unfold crcBit; rw [if_pos h1]
        have HV := Lib.hid hv
        have h1' : ((x : Int) % 2 == 1) = true := by simp; omega
        rw [h1] at ha
        clear hv
        go_wp2_with fail
        go_roundg (8 - (k + 1))
        case measure => omega
        case rel => exact ⟨k + 1, by omega, rfl, by go_num, by rw [HV.out]; exact (HB.out.set 0 _).set 0 _, (HO.out.set 0 _).set 0 _⟩
      · have hv : crcBits (k + 1) (s ^^^ c) = x / 2 := by
          show crcBit (crcBits k (s ^^^ c)) = _
          rw [HX1.out]; unfold crcBit; rw [if_neg h1]
        have HV := Lib.hid hv
        rw [show x % 2 = 0 by omega] at ha
        clear hv
        go_wp2_with fail
        go_roundg (8 - (k + 1))
        case measure => omega
        case rel => exact ⟨k + 1, by omega, rfl, by go_num, by rw [HV.out, Int.natCast_ediv]; exact HB.out.set 0 _, HO.out.set 0 _⟩
    · obtain rfl : k = 8 := by omega
      clear h8
      go_wp2
      go_end0
      exact ⟨rfl, by unfold crcByte; rw [HX1.out]; exact HB.out, HO.out⟩

theorem Try_enter45 (args : Array Value) (W : World) : (callFunc 45 args).run Try.prog W = .ok (Next.enter 45 args) W := by kernel_rfl
set_option maxRecDepth 8000 in
set_option maxHeartbeats 4000000 in
theorem Try_crcMore (s : Nat) (a : Option Addr) (n c : Nat) (l : List UInt8) (hs : s < 4294967296) (w : World) (hl : BytesAt w a n c l) :
    Calls Try.prog 36 #[.int .u32 (s : Int), .slice a n c] w fun e w' => e = .returned (.int .u32 ((4294967295 - crcOf (4294967295 - s) l : Nat) : Int)) ∧ Below w.heap.size w w' := by
  have HL := Lib.hid hl
  have hnf := hl.hfew
  have HS := Lib.hid hs
  have hnf' : (n : Int) ≤ 140737488355328 := by omega
  obtain ⟨g0, hg0⟩ : ∃ g0, 4294967295 - s = g0 := ⟨_, rfl⟩
  have hgl : g0 < 4294967296 := by omega
  have hx := bits_ones hs
  rw [hg0] at hx
  have HG := Lib.hid hg0
  have HGL := Lib.hid hgl
  have HB0 := Lib.hid (Blk.new w [.int .u32 (g0 : Int)] 97)
  clear hg0 hgl
  have hen := Try_enter45
  clear hl hs hnf
  go_enter Try.func36, Try.ntmps36
  go_wp2_with fail
  go_loopg [16] n (fun g ix wr => ∃ k : Nat, k ≤ n ∧ g = n - k ∧ ix = .int .i64 k ∧ Blk wr w.heap.size [.int .u32 (crcOf g0 (l.take k) : Int)] 97 ∧ Below w.heap.size w wr)
  case atStart => exact ⟨0, Nat.zero_le _, rfl, rfl, HB0.out, (by repeat (first | (with_reducible exact Below.refl _ _) | (with_reducible exact Below.refl _ _) | (with_reducible refine Below.setCell ?_ (by first | omega | (simp; done) | (simp; omega)) _) | (with_reducible refine Below.alloc ?_ (by first | omega | (simp; done) | (simp; omega)) _) | (with_reducible refine Below.drew ?_) | (with_reducible refine below_drewN ?_ _)))⟩
  case round =>
    obtain ⟨k, hk, rfl, rfl, hb, hbl⟩ := hrel
    have HB := Lib.hid hb
    have HBL := Lib.hid hbl
    have hlt := crcOf_lt HGL.out (l.take k)
    have HLT := Lib.hid hlt
    obtain ⟨x, hx1⟩ : ∃ x, crcOf g0 (l.take k) = x := ⟨_, rfl⟩
    have HX := Lib.hid hx1
    rw [hx1] at hb
    have qk := hb.cells
    have lk := hb.lt
    clear hb hbl hlt hx1 hx
    by_cases hkn : k < n
    · obtain ⟨y, hy⟩ : ∃ y, l[k]? = some y := ⟨_, List.getElem?_eq_getElem (by have := HL.out.hlen; omega)⟩
      obtain ⟨b, o, rfl, hb, hc⟩ := HL.out.hat k y hy
      have hc' := (HBL.out.cell (p := ⟨b, o + k, none⟩) hb).trans hc
      have hkn' : (k : Int) < (n : Int) := by omega
      have HY := Lib.hid hy
      clear hy hc hb
      go_wp2_with fail
      have hA := Try_takes (crcOf g0 (l.take k)) y.toNat w.heap.size HLT.out y.toNat_lt wr HB.out
      with_reducible refine hA.mono ?_
      rintro e w' ⟨rfl, hb, ho⟩
      go_wp2_with fail
      go_roundg (n - (k + 1))
      case measure => omega
      case rel => exact ⟨k + 1, by omega, rfl, by go_num, by rw [List.take_add_one, HY.out, Option.toList_some, crcOf_snoc]; exact hb, below_only HBL.out ho HBL.out.size (Nat.le_refl _)⟩
    · obtain rfl : k = n := by omega
      have hkn' : ¬ (k : Int) < (k : Int) := by omega
      have hx2 := bits_ones HLT.out
      rw [HX.out] at hx2
      have hle : l.take k = l := List.take_of_length_le (by have := HL.out.hlen; omega)
      have HE := Lib.hid (show 4294967295 - x = 4294967295 - crcOf g0 l by rw [← HX.out, hle])
      obtain ⟨z, hz⟩ : ∃ z, 4294967295 - x = z := ⟨_, rfl⟩
      rw [hz] at hx2
      have HZ := Lib.hid hz
      clear hz hle hkn
      go_wp2
      go_ret
      exact ⟨by rw [HG.out]; first | rfl | (rw [← HE.out, HZ.out]; rfl), HBL.out⟩
set_option maxRecDepth 8000 in
theorem Try_crcSum (a : Option Addr) (n c : Nat) (l : List UInt8) (w : World) (hl : BytesAt w a n c l) :
    Calls Try.prog 37 #[.slice a n c] w fun e w' => e = .returned (.int .u32 ((4294967295 - crcOf 4294967295 l : Nat) : Int)) ∧ Below w.heap.size w w' := by
  have hA : Calls Try.prog 36 #[.int .u32 0, .slice a n c] w _ := Try_crcMore 0 a n c l (by omega) w hl
  have HA := Lib.hid hA
  clear hA hl
  go_enter Try.func37, Try.ntmps37
  go_wp2_with fail
  refine HA.out.mono ?_; rintro e w' ⟨rfl, hb⟩
  go_wp2
  go_ret
  exact ⟨rfl, hb⟩
end Go.Proofs.Ythpdcbklaapngaa

namespace Go.Dav
set_option linter.unusedVariables false
set_option linter.unusedSimpArgs false
open Go Go.RowKit

/-- The reference's step: a sum takes in a bit. -/
def refBit (s x : Nat) : Nat := if s % 2 ≠ x then s / 2 ^^^ 2197175160 else s / 2
theorem refBit_lt {s x : Nat} (h : s < 4294967296) : refBit s x < 4294967296 := by
  unfold refBit
  split
  · exact xor_lt (by omega) (by decide)
  · omega
/-- The sum behind k bits of c. -/
def refBits (s c : Nat) : Nat → Nat
  | 0 => s
  | k + 1 => refBit (refBits s c k) (c / 2 ^ k % 2)
theorem refBits_lt {s c : Nat} (h : s < 4294967296) : ∀ k, refBits s c k < 4294967296
  | 0 => h
  | k + 1 => refBit_lt (refBits_lt h k)
theorem xor_mod2 (a b : Nat) : (a ^^^ b) % 2 = if a % 2 = b % 2 then 0 else 1 := by
  have h := Nat.xor_mod_two_eq_one (a := a) (b := b)
  split <;> omega
theorem xor_div2 (a b : Nat) : (a ^^^ b) / 2 = a / 2 ^^^ b / 2 := by
  apply Nat.eq_of_testBit_eq
  intro i
  rw [Nat.testBit_xor, Nat.testBit_div_two, Nat.testBit_div_two, Nat.testBit_div_two, Nat.testBit_xor]
theorem crcBits_ref (s c : Nat) : ∀ k, crcBits k (s ^^^ c) = refBits s c k ^^^ c / 2 ^ k
  | 0 => by simp [crcBits, refBits]
  | k + 1 => by
    show crcBit (crcBits k (s ^^^ c)) = refBit (refBits s c k) (c / 2 ^ k % 2) ^^^ c / 2 ^ (k + 1)
    rw [crcBits_ref s c k]
    generalize refBits s c k = a
    have hd : c / 2 ^ (k + 1) = c / 2 ^ k / 2 := by rw [Nat.pow_succ, Nat.div_div_eq_div_mul]
    rw [hd]
    generalize c / 2 ^ k = b
    unfold crcBit refBit
    rw [xor_mod2, xor_div2]
    by_cases h : a % 2 = b % 2
    · rw [if_pos h, if_neg (by decide), if_neg (by omega)]
    · rw [if_neg h, if_pos rfl, if_pos h, Nat.xor_assoc, Nat.xor_assoc, Nat.xor_comm (b / 2)]
theorem refBits_byte {s c : Nat} (hc : c < 256) : refBits s c 8 = crcByte s c := by
  unfold crcByte
  rw [crcBits_ref, show c / 2 ^ 8 = 0 by omega, Nat.xor_zero]
end Go.Dav
namespace Go.Proofs.Ythpdcbklaapngaa
set_option linter.unusedVariables false
set_option linter.unusedSimpArgs false
open Go.RowKit Go.Dav
attribute [local go_sem] Gives ite_val ite_val_true

end Go.Proofs.Ythpdcbklaapngaa

namespace Go.Proofs.Ythpdcbklaapngaa
set_option linter.unusedVariables false
set_option linter.unusedSimpArgs false
open Go.RowKit Go.Dav
attribute [local go_sem] Gives ite_val ite_val_true

/-- What 'Long' answers: how many bytes, or more than may be. -/
def TryLong (F : FileD) (w : World) (e : Ending) (w' : World) : Prop :=
  ∃ n : Nat, e = .returned (.int .i64 n) ∧ (F.many ≤ 524288 → n = F.many) ∧ (524288 < F.many → 524288 < n) ∧ n ≤ 281474976710656 ∧ Below w.heap.size w w'

def TryLongRel (w : World) (F : FileD) (fl : Nat) (cs : List Value) (ix n : Value) (wr : World) : Prop :=
  ∃ k m : Nat, k ≤ F.loose.length ∧ m = fl + sumTo F.loose k ∧ ix = .int .i64 k ∧ n = .int .i64 m ∧ m ≤ 281474976710656 ∧ wr = w.alloc (.cells cs.toArray 27)

def TryRightRel (w : World) (F : FileD) (cs : List Value) (ix : Value) (wr : World) : Prop :=
  ∃ k : Nat, k ≤ F.loose.length ∧ ix = .int .i64 k ∧ ((F.loose.take k).all fun p => !p.isEmpty) = true ∧ wr = w.alloc (.cells cs.toArray 27)

theorem FileD.len_right {F : FileD} (h : F.right = true) : F.len = F.many := by
  have := FileD.right_spec.1 h
  unfold FileD.len
  rw [if_pos ⟨this.1, this.2.2.2.2⟩]

set_option maxHeartbeats 4000000 in
theorem Try_Len (F : FileD) (fa la : Option Addr) (fl fc ll lc : Nat) (w : World) (hF : FileAt w fa fl fc la ll lc F) :
    Calls Try.prog 9 #[.agg #[.slice fa fl fc, .slice la ll lc, .int .i64 F.fuse, .int .i64 F.fault, .bool F.off]] w fun e w' => e = .returned (.int .i64 (if F.right = true then (F.many : Int) else 0)) ∧ Below w.heap.size w w' := by
  have hF' := hF.ext ((Below.refl _ w).alloc (Nat.le_refl _) (.cells #[.slice fa fl fc, .slice la ll lc, .int .i64 F.fuse, .int .i64 F.fault, .bool F.off] 27))
  have HAT := Lib.hid hF'; clear hF' hF
  have hb : Below w.heap.size w (w.alloc (.cells #[.slice fa fl fc, .slice la ll lc, .int .i64 F.fuse, .int .i64 F.fault, .bool F.off] 27)) := (Below.refl _ w).alloc (Nat.le_refl _) _
  cases hr : F.right with
  | true =>
    have herr : F.err = 0 := by unfold FileD.err; rw [if_pos hr]
    have HL := Lib.hid (FileD.len_right hr)
    go_enter Try.func9, Try.ntmps9
    go_wp2_with fail
    refine (Try_Check F fa la fl fc ll lc _ HAT.out).mono ?_; rintro e w1 ⟨rfl, hb1⟩
    obtain ⟨hc1, hf1, hs1⟩ := after hb1
    simp only [World.size_alloc] at hs1
    rw [herr]
    go_wp2_with fail
    refine (Try_length F fa la fl fc ll lc _ (HAT.out.ext hb1)).mono ?_; rintro e w2 ⟨rfl, hb2⟩
    go_wp2
    go_ret
    exact ⟨ret_int HL.out, (by repeat (first | (with_reducible exact Below.refl _ _) | (with_reducible exact Below.refl _ _) | (with_reducible refine Below.setCell ?_ (by first | omega | (simp; done) | (simp; omega)) _) | (with_reducible refine Below.alloc ?_ (by first | omega | (simp; done) | (simp; omega)) _) | (with_reducible refine Below.drew ?_) | (with_reducible refine below_drewN ?_ _) | (with_reducible refine Below.trans ?_ (hb2.mono (by first | omega | (simp; done) | (simp; omega)))) | (with_reducible refine Below.trans ?_ (hb1.mono (by first | omega | (simp; done) | (simp; omega))))))⟩
  | false =>
    have herr : F.err = 200 := by unfold FileD.err; rw [if_neg (by rw [hr]; decide)]
    go_enter Try.func9, Try.ntmps9
    go_wp2_with fail
    refine (Try_Check F fa la fl fc ll lc _ HAT.out).mono ?_; rintro e w1 ⟨rfl, hb1⟩
    rw [herr]
    go_wp2
    go_ret
    exact ⟨rfl, (by repeat (first | (with_reducible exact Below.refl _ _) | (with_reducible exact Below.refl _ _) | (with_reducible refine Below.setCell ?_ (by first | omega | (simp; done) | (simp; omega)) _) | (with_reducible refine Below.alloc ?_ (by first | omega | (simp; done) | (simp; omega)) _) | (with_reducible refine Below.drew ?_) | (with_reducible refine below_drewN ?_ _) | (with_reducible refine Below.trans ?_ (hb1.mono (by first | omega | (simp; done) | (simp; omega))))))⟩
end Go.Proofs.Ythpdcbklaapngaa

namespace Go.Proofs.Ythpdcbklaapngaa
set_option linter.unusedVariables false
set_option linter.unusedSimpArgs false
open Go.RowKit Go.Dav
attribute [local go_sem] Gives ite_val ite_val_true

def TryEqFRel (w : World) (x y : List (List UInt8)) (ix : Value) (wr : World) : Prop :=
  ∃ k : Nat, k ≤ x.length ∧ ix = .int .i64 k ∧ x.take k = y.take k ∧ Below w.heap.size w wr

theorem take_succ_eqL {x y : List (List UInt8)} {k : Nat} {c d : List UInt8} (h : x.take k = y.take k) (hx : x[k]? = some c) (hy : y[k]? = some d) : x.take (k + 1) = y.take (k + 1) ↔ c = d := by
  rw [List.take_add_one, List.take_add_one, hx, hy, h]
  simp

def TryRSameRel (w : World) (x y : List (List UInt8)) (c1 c2 : List Value) (ix : Value) (wr : World) : Prop :=
  ∃ k : Nat, k ≤ x.length ∧ ix = .int .i64 k ∧ x.take k = y.take k ∧ Blk wr w.heap.size c1 27 ∧ Blk wr (w.heap.size + 1) c2 27 ∧ Below w.heap.size w wr

end Go.Proofs.Ythpdcbklaapngaa

namespace Go.Proofs.Ythpdcbklaapngaa
set_option linter.unusedVariables false
set_option linter.unusedSimpArgs false
open Go.RowKit Go.Dav
attribute [local go_sem] Gives ite_val ite_val_true

theorem Try_off (p : Nat) (v0 v1 : Value) (fuse fault : Int) (off : Bool) (w : World) (hp : Blk w p [v0, v1, .int .i64 fuse, .int .i64 fault, .bool off] 76) :
    Calls Try.prog 41 #[.pointer (some ⟨p, 0, none⟩)] w fun e w' => e = .returned (.int .i64 (if off = true then 10 else 0)) ∧ w = w' := by
  have c := hp.cells
  cases off
  · go_enter Try.func41, Try.ntmps41
    go_wp2
    go_ret
    exact ⟨rfl, rfl⟩
  · go_enter Try.func41, Try.ntmps41
    go_wp2
    go_ret
    exact ⟨rfl, rfl⟩

/-- What 'refused' leaves of Fault, and what it answers. -/
theorem Try_refused (p : Nat) (v0 v1 : Value) (fuse fault : Int) (off : Bool) (w : World) (hp : Blk w p [v0, v1, .int .i64 fuse, .int .i64 fault, .bool off] 76) (h1 : -1 ≤ fault) (h2 : fault ≤ 9223372036854775807) :
    Calls Try.prog 42 #[.pointer (some ⟨p, 0, none⟩)] w fun e w' => e = .returned (.int .i64 (if fault = 0 then 9 else 0)) ∧
      Blk w' p [v0, v1, .int .i64 fuse, .int .i64 (if fault = 0 then -1 else if 0 < fault then fault - 1 else fault), .bool off] 76 ∧ Only p w w' := by
  have c := hp.cells
  have m := hp.marks
  have lp := hp.lt
  by_cases h0 : fault = 0
  · subst h0
    go_enter Try.func42, Try.ntmps42
    go_wp2
    go_ret
    exact ⟨rfl, by simpa using hp.set 3 _, (by repeat (first | (with_reducible exact Only.refl _ _) | (with_reducible refine Only.set ?_ _ _) | (with_reducible refine Only.alloc ?_ _) | (with_reducible refine Only.drew ?_)))⟩
  · by_cases hneg : fault = -1
    · subst hneg
      go_enter Try.func42, Try.ntmps42
      go_wp2
      go_ret
      exact ⟨rfl, by simpa using (hp.set 3 (.int .i64 (-2))).set 3 (.int .i64 (-1)), (by repeat (first | (with_reducible exact Only.refl _ _) | (with_reducible refine Only.set ?_ _ _) | (with_reducible refine Only.alloc ?_ _) | (with_reducible refine Only.drew ?_)))⟩
    · have hpos : 0 < fault := by omega
      have e1 : fault - 1 ≥ -2 := by omega
      have e2 : (fault - 1 == -1) = false := by simp; omega
      have e3 : (fault - 1 == -2) = false := by simp; omega
      go_enter Try.func42, Try.ntmps42
      go_wp2
      go_ret
      exact ⟨rfl, by simpa using hp.set 3 (.int .i64 (fault - 1)), (by repeat (first | (with_reducible exact Only.refl _ _) | (with_reducible refine Only.set ?_ _ _) | (with_reducible refine Only.alloc ?_ _) | (with_reducible refine Only.drew ?_)))⟩

set_option maxHeartbeats 1000000 in
theorem Try_burns (p : Nat) (v0 v1 : Value) (fuse fault : Int) (off : Bool) (w : World) (hp : Blk w p [v0, v1, .int .i64 fuse, .int .i64 fault, .bool off] 76) (h1 : -1 ≤ fuse) (h2 : fuse ≤ 9223372036854775807) :
    Calls Try.prog 43 #[.pointer (some ⟨p, 0, none⟩)] w fun e w' => e = .returned (.int .i64 (if fuse = 0 then 10 else 0)) ∧
      Blk w' p [v0, v1, .int .i64 (if 0 < fuse then fuse - 1 else -1), .int .i64 fault, .bool (off || decide (fuse = 0))] 76 ∧ Only p w w' := by
  have c := hp.cells
  have m := hp.marks
  have lp := hp.lt
  by_cases h0 : fuse = 0
  · subst h0
    go_enter Try.func43, Try.ntmps43
    go_wp2
    go_ret
    exact ⟨rfl, by simpa using (hp.set 2 (.int .i64 (-1))).set 4 (.bool true), (by repeat (first | (with_reducible exact Only.refl _ _) | (with_reducible refine Only.set ?_ _ _) | (with_reducible refine Only.alloc ?_ _) | (with_reducible refine Only.drew ?_)))⟩
  · by_cases hneg : fuse = -1
    · subst hneg
      go_enter Try.func43, Try.ntmps43
      go_wp2
      go_ret
      exact ⟨rfl, by simpa using hp, (by repeat (first | (with_reducible exact Only.refl _ _) | (with_reducible refine Only.set ?_ _ _) | (with_reducible refine Only.alloc ?_ _) | (with_reducible refine Only.drew ?_)))⟩
    · have hpos : 0 < fuse := by omega
      have e2 : (fuse - 1 == -1) = false := by simp; omega
      have e3 : (fuse == -1) = false := by simp; omega
      go_enter Try.func43, Try.ntmps43
      go_wp2
      go_ret
      exact ⟨rfl, by simpa [h0] using hp.set 2 (.int .i64 (fuse - 1)), (by repeat (first | (with_reducible exact Only.refl _ _) | (with_reducible refine Only.set ?_ _ _) | (with_reducible refine Only.alloc ?_ _) | (with_reducible refine Only.drew ?_)))⟩

set_option maxHeartbeats 1000000 in
theorem Try_room (F : FileD) (fa la : Option Addr) (fl fc ll lc q r : Nat) (more : Int) (w : World) (hr : F.right = true) (hq : Blk w q [.int .i64 more] 3) (hf : Blk w r [.slice fa fl fc, .slice la ll lc, .int .i64 F.fuse, .int .i64 F.fault, .bool F.off] 27) (hF : FileAt w fa fl fc la ll lc F) :
    Calls Try.prog 40 #[.pointer (some ⟨q, 0, none⟩), .pointer (some ⟨r, 0, none⟩)] w fun e w' =>
      e = .returned (.int .i64 (if 524288 - (F.many : Int) < more then 8 else 0)) ∧ Below w.heap.size w w' := by
  have c1 := hq.cells
  have c2 := hf.cells
  have hlen := FileD.len_right hr
  have hm : (F.many : Int) ≤ 524288 := by have := (FileD.right_spec.1 hr).2.2.2.2; omega
  have l1 := hq.lt
  have l2 := hf.lt
  have HL := Lib.hid hlen
  clear hlen
  have hm0 : (0 : Int) ≤ (F.many : Int) := by omega
  have hw : IntKind.i64.wrap (524288 - (F.many : Int)) = 524288 - (F.many : Int) := IntWalk.i64_in _ (by omega)
  by_cases h : 524288 - (F.many : Int) < more
  · go_enter Try.func40, Try.ntmps40
    go_wp2_with fail
    refine' wp_region_seq [.inl _, .inl _, .inl _, .inl _, .inl _] (by kernel_rfl) (by kernel_rfl) ?main1
    case main1 =>
      refine wpParts_det (by rfl) (fun W hE hN => ?_) ?_
      · have hc := fun b o h => hE.cell (p := ⟨b, o, none⟩) h
        go_simp; refine ⟨Below.refl _ _, ?_⟩; rfl
      simp only [Act.put, List.setIfInBounds_toArray, List.set_cons_zero, List.set_cons_succ]
      refine wpParts_det (by rfl) (fun W hE hN => ?_) ?_
      · have hc := fun b o h => hE.cell (p := ⟨b, o, none⟩) h
        go_simp; refine ⟨Below.refl _ _, ?_⟩; rfl
      simp only [Act.put, List.setIfInBounds_toArray, List.set_cons_zero, List.set_cons_succ]
      refine wpParts_det (by rfl) (fun W hE hN => ?_) ?_
      · go_simp; refine ⟨Below.refl _ _, ?_⟩; refine (Try_length F fa la fl fc ll lc _ (hF.ext hE)).mono ?_; rintro e w' ⟨rfl, hb⟩; refine ⟨?_, hb⟩; rfl
      simp only [Act.put, List.setIfInBounds_toArray, List.set_cons_zero, List.set_cons_succ]
      refine wpParts_det (by rfl) (fun W hE hN => ?_) ?_
      · go_simp; refine ⟨Below.refl _ _, ?_⟩; rfl
      simp only [Act.put, List.setIfInBounds_toArray, List.set_cons_zero, List.set_cons_succ]
      refine wpParts_det (by rfl) (fun W hE hN => ?_) ?_
      · go_simp; refine ⟨Below.refl _ _, ?_⟩; rfl
      simp only [Act.put, List.setIfInBounds_toArray, List.set_cons_zero, List.set_cons_succ]
      refine wpParts_end fun W2 hE2 hG2 => ?_
      have hcW2 := fun b o h => hE2.cell (p := ⟨b, o, none⟩) h
      have hfW2 := fun b o h => hE2.frozen (p := ⟨b, o, none⟩) h
      rw [HL.out]
      go_wp2
      go_ret
      exact ⟨rfl, hE2⟩
  · go_enter Try.func40, Try.ntmps40
    go_wp2_with fail
    refine' wp_region_seq [.inl _, .inl _, .inl _, .inl _, .inl _] (by kernel_rfl) (by kernel_rfl) ?main2
    case main2 =>
      refine wpParts_det (by rfl) (fun W hE hN => ?_) ?_
      · have hc := fun b o h => hE.cell (p := ⟨b, o, none⟩) h
        go_simp; refine ⟨Below.refl _ _, ?_⟩; rfl
      simp only [Act.put, List.setIfInBounds_toArray, List.set_cons_zero, List.set_cons_succ]
      refine wpParts_det (by rfl) (fun W hE hN => ?_) ?_
      · have hc := fun b o h => hE.cell (p := ⟨b, o, none⟩) h
        go_simp; refine ⟨Below.refl _ _, ?_⟩; rfl
      simp only [Act.put, List.setIfInBounds_toArray, List.set_cons_zero, List.set_cons_succ]
      refine wpParts_det (by rfl) (fun W hE hN => ?_) ?_
      · go_simp; refine ⟨Below.refl _ _, ?_⟩; refine (Try_length F fa la fl fc ll lc _ (hF.ext hE)).mono ?_; rintro e w' ⟨rfl, hb⟩; refine ⟨?_, hb⟩; rfl
      simp only [Act.put, List.setIfInBounds_toArray, List.set_cons_zero, List.set_cons_succ]
      refine wpParts_det (by rfl) (fun W hE hN => ?_) ?_
      · go_simp; refine ⟨Below.refl _ _, ?_⟩; rfl
      simp only [Act.put, List.setIfInBounds_toArray, List.set_cons_zero, List.set_cons_succ]
      refine wpParts_det (by rfl) (fun W hE hN => ?_) ?_
      · go_simp; refine ⟨Below.refl _ _, ?_⟩; rfl
      simp only [Act.put, List.setIfInBounds_toArray, List.set_cons_zero, List.set_cons_succ]
      refine wpParts_end fun W2 hE2 hG2 => ?_
      have hcW2 := fun b o h => hE2.cell (p := ⟨b, o, none⟩) h
      have hfW2 := fun b o h => hE2.frozen (p := ⟨b, o, none⟩) h
      rw [HL.out]
      go_wp2
      go_ret
      exact ⟨rfl, hE2⟩
end Go.Proofs.Ythpdcbklaapngaa

namespace Go.Proofs.Ythpdcbklaapngaa
set_option linter.unusedVariables false
set_option linter.unusedSimpArgs false
open Go.RowKit Go.Dav
attribute [local go_sem] Gives ite_val ite_val_true

/-- What an operation does, given as a function value: the file behind a pointer is turned by g. -/
def TryDoes (w : World) (S : Nat → Prop) (kdo : Nat) (cap : Array Value) (g : FileD → FileD) : Prop :=
  ∀ (W : World) (p : Nat) (fa la : Option Addr) (fl fc ll lc : Nat) (F : FileD), Below w.heap.size w W → w.heap.size ≤ p → Blk W p [.slice fa fl fc, .slice la ll lc, .int .i64 F.fuse, .int .i64 F.fault, .bool F.off] 76 → FileS w S fa fl fc la ll lc F → F.right = true →
    Calls Try.prog kdo (#[.pointer (some ⟨p, 0, none⟩)] ++ cap) W fun e W' => e = .returned (.tuple #[]) ∧ ∃ ga gl gc ma ml mc, Blk W' p [.slice ga gl gc, .slice ma ml mc, .int .i64 (g F).fuse, .int .i64 (g F).fault, .bool (g F).off] 76 ∧
      FileS W' (Or S W) ga gl gc ma ml mc (g F) ∧ Only p W W'

theorem Try_idx0 (x0 x1 x2 x3 : Value) (w : World) : (Instr.index 92 (.agg #[x0, x1, x2, x3]) (.int .i64 0)).run Try.prog w = .ok x0 w := by kernel_rfl
theorem Try_idx1 (x0 x1 x2 x3 : Value) (w : World) : (Instr.index 92 (.agg #[x0, x1, x2, x3]) (.int .i64 1)).run Try.prog w = .ok x1 w := by kernel_rfl
theorem Try_idx2 (x0 x1 x2 x3 : Value) (w : World) : (Instr.index 92 (.agg #[x0, x1, x2, x3]) (.int .i64 2)).run Try.prog w = .ok x2 w := by kernel_rfl
theorem Try_idx3 (x0 x1 x2 x3 : Value) (w : World) : (Instr.index 92 (.agg #[x0, x1, x2, x3]) (.int .i64 3)).run Try.prog w = .ok x3 w := by kernel_rfl

set_option maxRecDepth 8000 in
set_option maxHeartbeats 8000000 in
theorem Try_operation_no (F : FileD) (fa la : Option Addr) (fl fc ll lc kdo : Nat) (more : Int) (cap : Array Value) (w : World) (S : Nat → Prop) (hF : FileS w S fa fl fc la ll lc F) (hr : F.right = false) :
    Calls Try.prog 29 #[.agg #[.slice fa fl fc, .slice la ll lc, .int .i64 F.fuse, .int .i64 F.fault, .bool F.off], .int .i64 more, .func (.func kdo) #[] cap] w (GivesFile w S F 200) := by
  have herr : F.err = 200 := by unfold FileD.err; rw [if_neg (by rw [hr]; decide)]
  have hW : Below w.heap.size w (((w.alloc (.cells [.slice fa fl fc, .slice la ll lc, .int .i64 F.fuse, .int .i64 F.fault, .bool F.off].toArray 27)).alloc (.cells #[.int .i64 more] 3)).alloc (.cells #[.slice none 0 0, .slice none 0 0, .int .i64 0, .int .i64 0, .bool false] 27)) := (by repeat (first | (with_reducible exact Below.refl _ _) | (with_reducible exact Below.refl _ _) | (with_reducible refine Below.setCell ?_ (by first | omega | (simp; done) | (simp; omega)) _) | (with_reducible refine Below.alloc ?_ (by first | omega | (simp; done) | (simp; omega)) _) | (with_reducible refine Below.drew ?_) | (with_reducible refine below_drewN ?_ _)))
  have HFF := Lib.hid (hF.at_.ext hW)
  have HF := Lib.hid hF
  clear hF hW
  go_enter Try.func29, Try.ntmps29
  go_wp2_with fail
  go_step3
  go_wp2_with fail
  refine (Try_Check F fa la fl fc ll lc _ HFF.out).mono ?_; rintro e w1 ⟨rfl, hb1⟩
  obtain ⟨hc1, hf1, hs1⟩ := after hb1
  simp only [World.size_alloc] at hs1
  have lt_w1_0_0 : w.heap.size < w1.heap.size := by omega
  have lt_w1_0_1 : w.heap.size < w1.heap.size + 1 := by omega
  have lt_w1_0_2 : w.heap.size < w1.heap.size + 1 + 1 := by omega
  rw [herr]
  have hr1 := (Blk.new' ((w.alloc (.cells [.slice fa fl fc, .slice la ll lc, .int .i64 F.fuse, .int .i64 F.fault, .bool F.off].toArray 27)).alloc (.cells #[.int .i64 more] 3)) [_, _, _, _, _] 27 (p := w.heap.size + 1 + 1) (by simp)).ext hb1
  have m1 := hr1.marks
  have q1 := hr1.cells
  have hr2 := ((((hr1.set 0 (.slice fa fl fc)).set 1 (.slice la ll lc)).set 2 (.int .i64 F.fuse)).set 3 (.int .i64 F.fault)).set 4 (.bool F.off)
  have c2 := hr2.cells
  simp only [List.set_cons_zero, List.set_cons_succ] at c2
  go_wp2
  rw [Exit.noGoto_ret]
  have hbel : Below w.heap.size w w1 := (by repeat (first | (with_reducible exact Below.refl _ _) | (with_reducible exact Below.refl _ _) | (with_reducible refine Below.setCell ?_ (by first | omega | (simp; done) | (simp; omega)) _) | (with_reducible refine Below.alloc ?_ (by first | omega | (simp; done) | (simp; omega)) _) | (with_reducible refine Below.drew ?_) | (with_reducible refine below_drewN ?_ _) | (with_reducible refine Below.trans ?_ (hb1.mono (by first | omega | (simp; done) | (simp; omega))))))
  refine bodyPost_ret (v := .tuple #[.agg #[.slice fa fl fc, .slice la ll lc, .int .i64 F.fuse, .int .i64 F.fault, .bool F.off], .int .i64 200]) (by simp [results, Try.results29, go_sem, c2]) rfl ⟨fa, fl, fc, la, ll, lc, rfl, (HF.out.mono fun b h => Or.inl h).ext ?_, ?_⟩
  · exact (by repeat (first | (with_reducible exact Below.refl _ _) | (with_reducible exact Below.refl _ _) | (with_reducible refine Below.setCell ?_ (by first | omega | (simp; done) | (simp; omega)) _) | (with_reducible refine Below.alloc ?_ (by first | omega | (simp; done) | (simp; omega)) _) | (with_reducible refine Below.drew ?_) | (with_reducible refine below_drewN ?_ _) | (with_reducible refine Below.trans ?_ (hbel.mono (by first | omega | (simp; done) | (simp; omega))))))
  · exact (by repeat (first | (with_reducible exact Below.refl _ _) | (with_reducible exact Below.refl _ _) | (with_reducible refine Below.setCell ?_ (by first | omega | (simp; done) | (simp; omega)) _) | (with_reducible refine Below.alloc ?_ (by first | omega | (simp; done) | (simp; omega)) _) | (with_reducible refine Below.drew ?_) | (with_reducible refine below_drewN ?_ _) | (with_reducible refine Below.trans ?_ (hbel.mono (by first | omega | (simp; done) | (simp; omega))))))

set_option maxRecDepth 8000 in
set_option maxHeartbeats 8000000 in
theorem Try_operation_yes (F : FileD) (fa la : Option Addr) (fl fc ll lc kdo : Nat) (more : Int) (cap : Array Value) (g : FileD → FileD) (w : World) (S : Nat → Prop) (hF : FileS w S fa fl fc la ll lc F) (hr : F.right = true) (hS : ∀ b, S b → b < w.heap.size) (hdo : TryDoes w S kdo cap g) (hen : ∀ args W, (callFunc kdo args).run Try.prog W = .ok (Next.enter kdo args) W) :
    Calls Try.prog 29 #[.agg #[.slice fa fl fc, .slice la ll lc, .int .i64 F.fuse, .int .i64 F.fault, .bool F.off], .int .i64 more, .func (.func kdo) #[] cap] w (GivesFile w S (F.op more g).1 (F.op more g).2) := by
  have herr : F.err = 0 := by unfold FileD.err; rw [if_pos hr]
  have hW : Below w.heap.size w (((w.alloc (.cells [.slice fa fl fc, .slice la ll lc, .int .i64 F.fuse, .int .i64 F.fault, .bool F.off].toArray 27)).alloc (.cells #[.int .i64 more] 3)).alloc (.cells #[.slice none 0 0, .slice none 0 0, .int .i64 0, .int .i64 0, .bool false] 27)) := (by repeat (first | (with_reducible exact Below.refl _ _) | (with_reducible exact Below.refl _ _) | (with_reducible refine Below.setCell ?_ (by first | omega | (simp; done) | (simp; omega)) _) | (with_reducible refine Below.alloc ?_ (by first | omega | (simp; done) | (simp; omega)) _) | (with_reducible refine Below.drew ?_) | (with_reducible refine below_drewN ?_ _)))
  have HFF := Lib.hid (hF.at_.ext hW)
  have HF := Lib.hid hF
  have HDO := Lib.hid hdo
  clear hF hW hdo
  have HSS := Lib.hid hS; clear hS
  go_enter Try.func29, Try.ntmps29
  go_wp2_with fail
  go_step3
  go_wp2_with fail
  refine (Try_Check F fa la fl fc ll lc _ HFF.out).mono ?_; rintro e w1 ⟨rfl, hb1⟩
  obtain ⟨hc1, hf1, hs1⟩ := after hb1
  simp only [World.size_alloc] at hs1
  have lt_w1_0_0 : w.heap.size < w1.heap.size := by omega
  have lt_w1_0_1 : w.heap.size < w1.heap.size + 1 := by omega
  have lt_w1_0_2 : w.heap.size < w1.heap.size + 1 + 1 := by omega
  rw [herr]
  have j0 := @Try_idx0
  have j1 := @Try_idx1
  have j2 := @Try_idx2
  have j3 := @Try_idx3
  have hp := Blk.new w1 [.slice fa fl fc, .slice la ll lc, .int .i64 F.fuse, .int .i64 F.fault, .bool F.off] 76
  go_wp2_with fail
  go_step3
  go_wp2_with fail
  refine wp_loop_rounds 5 ?_
  rw [rounds_succ]
  go_wp2_with fail
  have B1 := ((Blk.new' ((w.alloc (.cells [.slice fa fl fc, .slice la ll lc, .int .i64 F.fuse, .int .i64 F.fault, .bool F.off].toArray 27)).alloc (.cells #[.int .i64 more] 3)) [_, _, _, _, _] 27 (p := w.heap.size + 1 + 1) (by simp)).ext hb1).alloc (.cells [.slice fa fl fc, .slice la ll lc, .int .i64 F.fuse, .int .i64 F.fault, .bool F.off].toArray 76)
  have B2 := (((Blk.new' (w.alloc (.cells [.slice fa fl fc, .slice la ll lc, .int .i64 F.fuse, .int .i64 F.fault, .bool F.off].toArray 27)) [_] 3 (p := w.heap.size + 1) (by simp)).alloc (.cells #[.slice none 0 0, .slice none 0 0, .int .i64 0, .int .i64 0, .bool false] 27)).ext hb1).alloc (.cells [.slice fa fl fc, .slice la ll lc, .int .i64 F.fuse, .int .i64 F.fault, .bool F.off].toArray 76)
  have B3 := ((((Blk.new w [_, _, _, _, _] 27).alloc (.cells #[.int .i64 more] 3)).alloc (.cells #[.slice none 0 0, .slice none 0 0, .int .i64 0, .int .i64 0, .bool false] 27)).ext hb1).alloc (.cells [.slice fa fl fc, .slice la ll lc, .int .i64 F.fuse, .int .i64 F.fault, .bool F.off].toArray 76)
  have bel : Below w.heap.size w (w1.alloc (.cells [.slice fa fl fc, .slice la ll lc, .int .i64 F.fuse, .int .i64 F.fault, .bool F.off].toArray 76)) := (by repeat (first | (with_reducible exact Below.refl _ _) | (with_reducible exact Below.refl _ _) | (with_reducible refine Below.setCell ?_ (by first | omega | (simp; done) | (simp; omega)) _) | (with_reducible refine Below.alloc ?_ (by first | omega | (simp; done) | (simp; omega)) _) | (with_reducible refine Below.drew ?_) | (with_reducible refine below_drewN ?_ _) | (with_reducible refine Below.trans ?_ (hb1.mono (by first | omega | (simp; done) | (simp; omega))))))
  have hsz : (w1.alloc (.cells [.slice fa fl fc, .slice la ll lc, .int .i64 F.fuse, .int .i64 F.fault, .bool F.off].toArray 76)).heap.size = w1.heap.size + 1 := by simp
  obtain ⟨W, hW⟩ : ∃ W, W = w1.alloc (.cells [.slice fa fl fc, .slice la ll lc, .int .i64 F.fuse, .int .i64 F.fault, .bool F.off].toArray 76) := ⟨_, rfl⟩
  obtain ⟨G, hG⟩ : ∃ G, G = w1.heap.size := ⟨_, rfl⟩
  rw [← hW] at B1 B2 B3 bel hp hsz ⊢
  rw [← hG] at hp hsz hs1 ⊢
  clear hW hG hc1 hf1 hb1 lt_w1_0_0 lt_w1_0_1 lt_w1_0_2
  refine (Try_off G _ _ _ _ _ _ hp).mono ?_; rintro e wX ⟨rfl, rfl⟩
  by_cases hoff : F.off = true
  · have HV := Lib.hid (show F.op more g = (F, 10) by unfold FileD.op FileD.asked; rw [if_pos hr, if_pos hoff]; rfl)
    rw [if_pos hoff]
    have cG := (hp).cells
    have hr2 := ((((B1.set 0 (.slice fa fl fc)).set 1 (.slice la ll lc)).set 2 (.int .i64 (F.fuse))).set 3 (.int .i64 (F.fault))).set 4 (.bool (true))
    have c2 := hr2.cells
    have m2 := B1.marks
    have q2 := B1.cells
    have lG := (hp).lt
    have lB := B1.lt
    have nGB : G ≠ w.heap.size + 1 + 1 := by omega
    simp only [List.set_cons_zero, List.set_cons_succ] at c2
    go_wp2
    rw [Exit.noGoto_ret]
    rw [HV.out]
    refine bodyPost_ret (v := .tuple #[.agg #[.slice fa fl fc, .slice la ll lc, .int .i64 (F.fuse), .int .i64 (F.fault), .bool (true)], .int .i64 10]) (by simp [results, Try.results29, go_sem, c2]) rfl ⟨fa, fl, fc, la, ll, lc, by first | rfl | simp [*], ((HF.out).mono fun b h => Or.inl h).ext ?_, ?_⟩
    · exact (by repeat (first | (with_reducible exact Below.refl _ _) | (with_reducible exact Below.refl _ _) | (with_reducible refine Below.setCell ?_ (by first | omega | (simp; done) | (simp; omega)) _) | (with_reducible refine Below.alloc ?_ (by first | omega | (simp; done) | (simp; omega)) _) | (with_reducible refine Below.drew ?_) | (with_reducible refine below_drewN ?_ _) | (with_reducible refine Below.trans ?_ (bel.mono (by first | omega | (simp; done) | (simp; omega))))))
    · exact (by repeat (first | (with_reducible exact Below.refl _ _) | (with_reducible exact Below.refl _ _) | (with_reducible refine Below.setCell ?_ (by first | omega | (simp; done) | (simp; omega)) _) | (with_reducible refine Below.alloc ?_ (by first | omega | (simp; done) | (simp; omega)) _) | (with_reducible refine Below.drew ?_) | (with_reducible refine below_drewN ?_ _) | (with_reducible refine Below.trans ?_ (bel.mono (by first | omega | (simp; done) | (simp; omega))))))
  · rw [if_neg hoff]
    have hoff2 : F.off = false := by simpa using hoff
    go_wp2_with fail
    rw [rounds_succ]
    go_wp2_with fail
    refine (Try_room F fa la fl fc ll lc (w.heap.size + 1) w.heap.size more _ hr B2 B3 (HF.out.at_.ext bel)).mono ?_; rintro e w2 ⟨rfl, hb2⟩
    have B1 := B1.ext hb2
    have hp := hp.ext hb2
    have s2 := hb2.size
    have bel : Below w.heap.size w w2 := (by repeat (first | (with_reducible exact Below.refl _ _) | (with_reducible exact Below.refl _ _) | (with_reducible refine Below.setCell ?_ (by first | omega | (simp; done) | (simp; omega)) _) | (with_reducible refine Below.alloc ?_ (by first | omega | (simp; done) | (simp; omega)) _) | (with_reducible refine Below.drew ?_) | (with_reducible refine below_drewN ?_ _) | (with_reducible refine Below.trans ?_ (hb2.mono (by first | omega | (simp; done) | (simp; omega)))) | (with_reducible refine Below.trans ?_ (bel.mono (by first | omega | (simp; done) | (simp; omega))))))
    clear B2 B3
    by_cases hroom : 524288 - (F.many : Int) < more
    · have HV := Lib.hid (show F.op more g = (F, 8) by unfold FileD.op FileD.asked; rw [if_pos hr, if_neg hoff, if_pos hroom]; rfl)
      rw [if_pos hroom]
      have cG := (hp).cells
      have hr2 := ((((B1.set 0 (.slice fa fl fc)).set 1 (.slice la ll lc)).set 2 (.int .i64 (F.fuse))).set 3 (.int .i64 (F.fault))).set 4 (.bool (false))
      have c2 := hr2.cells
      have m2 := B1.marks
      have q2 := B1.cells
      have lG := (hp).lt
      have lB := B1.lt
      have nGB : G ≠ w.heap.size + 1 + 1 := by omega
      simp only [List.set_cons_zero, List.set_cons_succ] at c2
      go_wp2
      rw [Exit.noGoto_ret]
      rw [HV.out]
      refine bodyPost_ret (v := .tuple #[.agg #[.slice fa fl fc, .slice la ll lc, .int .i64 (F.fuse), .int .i64 (F.fault), .bool (false)], .int .i64 8]) (by simp [results, Try.results29, go_sem, c2]) rfl ⟨fa, fl, fc, la, ll, lc, by first | rfl | simp [*], ((HF.out).mono fun b h => Or.inl h).ext ?_, ?_⟩
      · exact (by repeat (first | (with_reducible exact Below.refl _ _) | (with_reducible exact Below.refl _ _) | (with_reducible refine Below.setCell ?_ (by first | omega | (simp; done) | (simp; omega)) _) | (with_reducible refine Below.alloc ?_ (by first | omega | (simp; done) | (simp; omega)) _) | (with_reducible refine Below.drew ?_) | (with_reducible refine below_drewN ?_ _) | (with_reducible refine Below.trans ?_ (bel.mono (by first | omega | (simp; done) | (simp; omega))))))
      · exact (by repeat (first | (with_reducible exact Below.refl _ _) | (with_reducible exact Below.refl _ _) | (with_reducible refine Below.setCell ?_ (by first | omega | (simp; done) | (simp; omega)) _) | (with_reducible refine Below.alloc ?_ (by first | omega | (simp; done) | (simp; omega)) _) | (with_reducible refine Below.drew ?_) | (with_reducible refine below_drewN ?_ _) | (with_reducible refine Below.trans ?_ (bel.mono (by first | omega | (simp; done) | (simp; omega))))))
    · rw [if_neg hroom]
      have HRM := Lib.hid hroom; clear hroom
      have hrs := FileD.right_spec.1 hr
      go_wp2_with fail
      rw [rounds_succ]
      go_wp2_with fail
      refine (Try_refused G _ _ _ _ _ _ hp hrs.2.2.1 HF.out.fault.2).mono ?_; rintro e w3 ⟨rfl, hp3, ho3⟩
      have hB3 : Below w.heap.size w w3 := below_only bel ho3 (by omega) (by omega)
      have B1 := B1.only ho3 (by omega)
      have s3 := ho3.size
      clear hp bel
      by_cases hfa : F.fault = 0
      · have HV := Lib.hid (show F.op more g = ({ F with fault := -1 }, 9) by unfold FileD.op FileD.asked; rw [if_pos hr, if_neg hoff, if_neg (Int.not_lt.2 HRM.out), if_pos hfa]; rfl)
        rw [if_pos hfa] at hp3 ⊢
        have hR : FileS w S fa fl fc la ll lc { F with fault := -1 } := ⟨HF.out.firm, HF.out.loose, HF.out.fuse, by unfold I64'; simp⟩
        have cG := (hp3).cells
        have hr2 := ((((B1.set 0 (.slice fa fl fc)).set 1 (.slice la ll lc)).set 2 (.int .i64 (F.fuse))).set 3 (.int .i64 (-1))).set 4 (.bool (false))
        have c2 := hr2.cells
        have m2 := B1.marks
        have q2 := B1.cells
        have lG := (hp3).lt
        have lB := B1.lt
        have nGB : G ≠ w.heap.size + 1 + 1 := by omega
        simp only [List.set_cons_zero, List.set_cons_succ] at c2
        go_wp2
        rw [Exit.noGoto_ret]
        rw [HV.out]
        refine bodyPost_ret (v := .tuple #[.agg #[.slice fa fl fc, .slice la ll lc, .int .i64 (F.fuse), .int .i64 (-1), .bool (false)], .int .i64 9]) (by simp [results, Try.results29, go_sem, c2]) rfl ⟨fa, fl, fc, la, ll, lc, by first | rfl | simp [*], ((hR).mono fun b h => Or.inl h).ext ?_, ?_⟩
        · exact (by repeat (first | (with_reducible exact Below.refl _ _) | (with_reducible exact Below.refl _ _) | (with_reducible refine Below.setCell ?_ (by first | omega | (simp; done) | (simp; omega)) _) | (with_reducible refine Below.alloc ?_ (by first | omega | (simp; done) | (simp; omega)) _) | (with_reducible refine Below.drew ?_) | (with_reducible refine below_drewN ?_ _) | (with_reducible refine Below.trans ?_ (hB3.mono (by first | omega | (simp; done) | (simp; omega))))))
        · exact (by repeat (first | (with_reducible exact Below.refl _ _) | (with_reducible exact Below.refl _ _) | (with_reducible refine Below.setCell ?_ (by first | omega | (simp; done) | (simp; omega)) _) | (with_reducible refine Below.alloc ?_ (by first | omega | (simp; done) | (simp; omega)) _) | (with_reducible refine Below.drew ?_) | (with_reducible refine below_drewN ?_ _) | (with_reducible refine Below.trans ?_ (hB3.mono (by first | omega | (simp; done) | (simp; omega))))))
      · rw [if_neg hfa] at hp3 ⊢
        have hfl : I64' (if 0 < F.fault then F.fault - 1 else F.fault) := by have := HF.out.fault; unfold I64' at *; split <;> omega
        have hfm : -1 ≤ (if 0 < F.fault then F.fault - 1 else F.fault) := by have := hrs.2.2.1; split <;> omega
        obtain ⟨fault, hfe⟩ : ∃ fault, fault = (if 0 < F.fault then F.fault - 1 else F.fault) := ⟨_, rfl⟩
        rw [← hfe] at hp3 hfl hfm
        have HFE := Lib.hid hfe; clear hfe
        go_wp2_with fail
        rw [rounds_succ]
        go_wp2_with fail
        refine (Try_burns G _ _ _ _ _ _ hp3 hrs.2.1 HF.out.fuse.2).mono ?_; rintro e w4 ⟨rfl, hp4, ho4⟩
        have hB4 : Below w.heap.size w w4 := below_only hB3 ho4 (by omega) (by omega)
        have B1 := B1.only ho4 (by omega)
        have s4 := ho4.size
        clear hp3 hB3
        by_cases hfu : F.fuse = 0
        · have HV := Lib.hid (show F.op more g = ({ F with fault := fault, fuse := -1, off := true }, 10) by unfold FileD.op FileD.asked; rw [if_pos hr, if_neg hoff, if_neg (Int.not_lt.2 HRM.out), if_neg hfa, if_pos hfu, ← HFE.out]; rfl)
          have hp5 : Blk w4 G [.slice fa fl fc, .slice la ll lc, .int .i64 (-1), .int .i64 fault, .bool true] 76 := by simpa [hfu] using hp4
          clear hp4
          rw [if_pos hfu]
          have hR : FileS w S fa fl fc la ll lc { F with fault := fault, fuse := -1, off := true } := ⟨HF.out.firm, HF.out.loose, by unfold I64'; simp, hfl⟩
          have cG := (hp5).cells
          have hr2 := ((((B1.set 0 (.slice fa fl fc)).set 1 (.slice la ll lc)).set 2 (.int .i64 (-1))).set 3 (.int .i64 (fault))).set 4 (.bool (true))
          have c2 := hr2.cells
          have m2 := B1.marks
          have q2 := B1.cells
          have lG := (hp5).lt
          have lB := B1.lt
          have nGB : G ≠ w.heap.size + 1 + 1 := by omega
          simp only [List.set_cons_zero, List.set_cons_succ] at c2
          go_wp2
          rw [Exit.noGoto_ret]
          rw [HV.out]
          refine bodyPost_ret (v := .tuple #[.agg #[.slice fa fl fc, .slice la ll lc, .int .i64 (-1), .int .i64 (fault), .bool (true)], .int .i64 10]) (by simp [results, Try.results29, go_sem, c2]) rfl ⟨fa, fl, fc, la, ll, lc, by first | rfl | simp [*], ((hR).mono fun b h => Or.inl h).ext ?_, ?_⟩
          · exact (by repeat (first | (with_reducible exact Below.refl _ _) | (with_reducible exact Below.refl _ _) | (with_reducible refine Below.setCell ?_ (by first | omega | (simp; done) | (simp; omega)) _) | (with_reducible refine Below.alloc ?_ (by first | omega | (simp; done) | (simp; omega)) _) | (with_reducible refine Below.drew ?_) | (with_reducible refine below_drewN ?_ _) | (with_reducible refine Below.trans ?_ (hB4.mono (by first | omega | (simp; done) | (simp; omega))))))
          · exact (by repeat (first | (with_reducible exact Below.refl _ _) | (with_reducible exact Below.refl _ _) | (with_reducible refine Below.setCell ?_ (by first | omega | (simp; done) | (simp; omega)) _) | (with_reducible refine Below.alloc ?_ (by first | omega | (simp; done) | (simp; omega)) _) | (with_reducible refine Below.drew ?_) | (with_reducible refine below_drewN ?_ _) | (with_reducible refine Below.trans ?_ (hB4.mono (by first | omega | (simp; done) | (simp; omega))))))
        · obtain ⟨fuse, hue⟩ : ∃ fuse, fuse = (if 0 < F.fuse then F.fuse - 1 else F.fuse) := ⟨_, rfl⟩
          have hul : I64' fuse := by have := HF.out.fuse; unfold I64' at *; rw [hue]; split <;> omega
          have hum : -1 ≤ fuse := by have := hrs.2.1; rw [hue]; split <;> omega
          have hp5 : Blk w4 G [.slice fa fl fc, .slice la ll lc, .int .i64 fuse, .int .i64 fault, .bool false] 76 := by
            have e1 : (if 0 < F.fuse then F.fuse - 1 else -1) = fuse := by rw [hue]; have := hrs.2.1; split <;> omega
            rw [e1] at hp4
            simpa [hfu, hoff2] using hp4
          have HUE := Lib.hid hue; clear hue hp4
          rw [if_neg hfu]
          have HV := Lib.hid (show F.op more g = (g { F with fault := fault, fuse := fuse, off := false }, 0) by
            unfold FileD.op FileD.asked
            rw [if_pos hr, if_neg hoff, if_neg (Int.not_lt.2 HRM.out), if_neg hfa, if_neg hfu, ← HFE.out, ← HUE.out, if_pos rfl, hoff2])
          have hR : FileS w S fa fl fc la ll lc { F with fault := fault, fuse := fuse, off := false } := ⟨HF.out.firm, HF.out.loose, hul, hfl⟩
          have hright : ({ F with fault := fault, fuse := fuse, off := false } : FileD).right = true := FileD.right_spec.2 ⟨hrs.1, hum, hfm, fun h => (by cases h), hrs.2.2.2.2⟩
          have HD := HDO.out w4 G fa la fl fc ll lc { F with fault := fault, fuse := fuse, off := false } hB4 (by omega) hp5 hR hright
          have HDD := Lib.hid HD; clear HD
          go_wp2_with fail
          rw [rounds_succ]
          go_wp2_with fail
          refine HDD.out.mono ?_; rintro e w5 ⟨rfl, ga, gl, gc, ma, ml, mc, hp6, hR6, ho6⟩
          have hB5 : Below w.heap.size w w5 := below_only hB4 ho6 (by omega) (by omega)
          have B1 := B1.only ho6 (by omega)
          have s5 := ho6.size
          have HR6 := Lib.hid hR6
          clear hR6
          obtain ⟨F6, hF6⟩ : ∃ F6, F6 = g { F with fault := fault, fuse := fuse, off := false } := ⟨_, rfl⟩
          rw [← hF6] at HV HR6 hp6
          clear hF6 hp5 hR
          have cG := hp6.cells
          have hr2 := ((((B1.set 0 (.slice ga gl gc)).set 1 (.slice ma ml mc)).set 2 (.int .i64 F6.fuse)).set 3 (.int .i64 F6.fault)).set 4 (.bool F6.off)
          have c2 := hr2.cells
          have m2 := B1.marks
          have q2 := B1.cells
          have lG := hp6.lt
          have lB := B1.lt
          have nGB : G ≠ w.heap.size + 1 + 1 := by omega
          simp only [List.set_cons_zero, List.set_cons_succ] at c2
          go_wp2
          rw [Exit.noGoto_ret]
          rw [HV.out]
          refine bodyPost_ret (v := .tuple #[.agg #[.slice ga gl gc, .slice ma ml mc, .int .i64 F6.fuse, .int .i64 F6.fault, .bool F6.off], .int .i64 0]) (by simp [results, Try.results29, go_sem, c2]) rfl ⟨ga, gl, gc, ma, ml, mc, rfl, ?_, ?_⟩
          · refine (HR6.out.same (Only.size (p := w.heap.size + 1 + 1) (by repeat (first | (with_reducible exact Only.refl _ _) | (with_reducible refine Only.set ?_ _ _) | (with_reducible refine Only.alloc ?_ _) | (with_reducible refine Only.drew ?_)))) (fun b h hlt => Only.block (p := w.heap.size + 1 + 1) (by repeat (first | (with_reducible exact Only.refl _ _) | (with_reducible refine Only.set ?_ _ _) | (with_reducible refine Only.alloc ?_ _) | (with_reducible refine Only.drew ?_))) b hlt ?_)).mono (T := Or S w) (fun b h => ?_)
            · rcases h with h | h
              · have := HSS.out b h; omega
              · omega
            · rcases h with h | h
              · exact .inl h
              · exact .inr (by omega)
          · exact (by repeat (first | (with_reducible exact Below.refl _ _) | (with_reducible exact Below.refl _ _) | (with_reducible refine Below.setCell ?_ (by first | omega | (simp; done) | (simp; omega)) _) | (with_reducible refine Below.alloc ?_ (by first | omega | (simp; done) | (simp; omega)) _) | (with_reducible refine Below.drew ?_) | (with_reducible refine below_drewN ?_ _) | (with_reducible refine Below.trans ?_ (hB5.mono (by first | omega | (simp; done) | (simp; omega))))))
theorem Try_operation (F : FileD) (fa la : Option Addr) (fl fc ll lc kdo : Nat) (more : Int) (cap : Array Value) (g : FileD → FileD) (w : World) (S : Nat → Prop) (hF : FileS w S fa fl fc la ll lc F) (hS : ∀ b, S b → b < w.heap.size) (hdo : TryDoes w S kdo cap g) (hen : ∀ args W, (callFunc kdo args).run Try.prog W = .ok (Next.enter kdo args) W) :
    Calls Try.prog 29 #[.agg #[.slice fa fl fc, .slice la ll lc, .int .i64 F.fuse, .int .i64 F.fault, .bool F.off], .int .i64 more, .func (.func kdo) #[] cap] w (GivesFile w S (F.op more g).1 (F.op more g).2) := by
  cases hr : F.right with
  | true => exact Try_operation_yes F fa la fl fc ll lc kdo more cap g w S hF hr hS hdo hen
  | false =>
    have e : F.op more g = (F, 200) := by unfold FileD.op; rw [if_neg (by rw [hr]; decide)]
    rw [e]
    exact Try_operation_no F fa la fl fc ll lc kdo more cap w S hF hr
end Go.Proofs.Ythpdcbklaapngaa

namespace Go.Dav
set_option linter.unusedVariables false
set_option linter.unusedSimpArgs false
open Go Go.RowKit

/-- The cells of a slice, and the blocks where they lie. -/
structure CellsS (W : World) (S : Nat → Prop) (a : Option Addr) (n : Nat) (xs : List Value) : Prop where
  len : xs.length = n
  at_ : ∀ (k : Nat) (v : Value), xs[k]? = some v → ∃ b o : Nat, a = some ⟨b, o, none⟩ ∧ b < W.heap.size ∧ S b ∧ W.cell? ⟨b, o + k, none⟩ = some v

/-- Bytes, as cells. -/
def u8s (l : List UInt8) : List Value := l.map fun x => Value.int .u8 (x.toNat : Int)
theorem u8s_one (l : List UInt8) : ∀ u ∈ u8s l, u.oneCell' = true := fun u hu => by
  obtain ⟨x, _, rfl⟩ := List.mem_map.1 hu; rfl
theorem u8s_len (l : List UInt8) : (u8s l).length = l.length := by simp [u8s]
theorem u8s_append (l k : List UInt8) : u8s (l ++ k) = u8s l ++ u8s k := by simp [u8s]
theorem u8s_inj {l k : List UInt8} (h : u8s l = u8s k) : l = k := by
  unfold u8s at h
  refine (List.map_inj_right (fun x y hxy => ?_)).1 h
  injection hxy with _ h
  exact UInt8.toNat_inj.1 (by omega)
theorem u8s_get {l : List UInt8} {k : Nat} {x : UInt8} (h : l[k]? = some x) : (u8s l)[k]? = some (.int .u8 (x.toNat : Int)) := by simp [u8s, h]

theorem BytesS.cells {W : World} {S : Nat → Prop} {a : Option Addr} {n cap : Nat} {l : List UInt8} (h : BytesS W S a n cap l) : CellsS W S a n (u8s l) :=
  ⟨by rw [u8s_len, h.at_.hlen], fun k v hk => by
    unfold u8s at hk
    rw [List.getElem?_map] at hk
    cases hx : l[k]? with
    | none => rw [hx] at hk; cases hk
    | some x =>
      rw [hx] at hk
      cases hk
      obtain ⟨b, o, h1, h2, h3⟩ := h.at_.hat k x hx
      obtain ⟨b', o', h1', h4⟩ := h.in_ k x hx
      rw [h1] at h1'; cases h1'
      exact ⟨b, o, h1, h2, h4, h3⟩⟩
theorem BytesS.of_cells {W : World} {S : Nat → Prop} {a : Option Addr} {n cap : Nat} {l : List UInt8} (h : CellsS W S a n (u8s l)) (h1 : n ≤ cap) (h2 : cap ≤ maxLen) (h3 : n ≤ 140737488355328) (h4 : a = none → cap = 0) : BytesS W S a n cap l :=
  ⟨⟨by rw [← h.len, u8s_len], h1, h2, h3, fun k x hk => by
    obtain ⟨b, o, g1, g2, _, g4⟩ := h.at_ k _ (u8s_get hk)
    exact ⟨b, o, g1, g2, g4⟩, h4⟩, fun k x hk => by
    obtain ⟨b, o, g1, _, g3, _⟩ := h.at_ k _ (u8s_get hk)
    exact ⟨b, o, g1, g3⟩⟩

theorem CellsS.ext {W W' : World} {S : Nat → Prop} {a : Option Addr} {n : Nat} {xs : List Value} (h : CellsS W S a n xs) (hb : Below W.heap.size W W') : CellsS W' S a n xs :=
  ⟨h.len, fun k v hk => by
    obtain ⟨b, o, h1, h2, h3, h4⟩ := h.at_ k v hk
    exact ⟨b, o, h1, Nat.lt_of_lt_of_le h2 hb.size, h3, by rw [hb.cell (p := ⟨b, o + k, none⟩) h2]; exact h4⟩⟩
theorem CellsS.same {W W' : World} {S : Nat → Prop} {a : Option Addr} {n : Nat} {xs : List Value} (h : CellsS W S a n xs) (hs : W.heap.size ≤ W'.heap.size) (hb : ∀ b, S b → b < W.heap.size → W'.heap[b]? = W.heap[b]?) : CellsS W' S a n xs :=
  ⟨h.len, fun k v hk => by
    obtain ⟨b, o, h1, h2, h3, h4⟩ := h.at_ k v hk
    exact ⟨b, o, h1, by omega, h3, (World.cell?_of_block (hb b h3 h2)).trans h4⟩⟩
theorem CellsS.mono {W : World} {S T : Nat → Prop} {a : Option Addr} {n : Nat} {xs : List Value} (h : CellsS W S a n xs) (hst : ∀ b, S b → T b) : CellsS W T a n xs :=
  ⟨h.len, fun k v hk => by
    obtain ⟨b, o, h1, h2, h3, h4⟩ := h.at_ k v hk
    exact ⟨b, o, h1, h2, hst b h3, h4⟩⟩
theorem CellsS.nil_ {W : World} {S : Nat → Prop} {a : Option Addr} : CellsS W S a 0 [] := ⟨rfl, fun k v hk => by simp at hk⟩

/-- The cells that lie one behind the other from an address on. -/
theorem CellsS.from_ {W : World} {S : Nat → Prop} {ad : Addr} {n : Nat} {xs : List Value} (h : CellsS W S (some ad) n xs) : ∀ j u, xs[j]? = some u → W.cell? (ad.add j) = some u := fun j u hj => by
  obtain ⟨b, o, h1, _, _, h4⟩ := h.at_ j u hj
  cases h1
  rw [Addr.add_mid]
  exact h4

theorem CellsS.src {P : Program} {W : World} {S : Nat → Prop} {a : Option Addr} {n c : Nat} {xs : List Value} (h : CellsS W S a n xs) (h1 : ∀ u ∈ xs, u.oneCell' = true) {t e : TypeId} (ht : P.underlying t = some (.slice e)) : Src P 1 t (.slice a n c) n xs W := by
  cases a with
  | none =>
    have h0 : xs = [] := by
      cases xs with
      | nil => rfl
      | cons x xs => obtain ⟨b, o, h1, _⟩ := h.at_ 0 x rfl; cases h1
    subst h0
    have hn : n = 0 := by have := h.len; simpa using this.symm
    subst hn
    exact Src.ofNil W ht c
  | some ad => exact Src.ofSlice W ht ad n c xs (by rw [h.len]; omega) h.from_ h1

/-- The element's row of the table: one cell. -/
structure Elem1 (P : Program) (t e : TypeId) (bytes : Nat) : Prop where
  ht : P.underlying t = some (.slice e)
  row : ∃ i z, P.info? e = some i ∧ i.zero = some z ∧ i.size = 1 ∧ i.bytes = bytes ∧ z.cells.size = 1

theorem own_cells {w : World} {base e n : Nat} {v : Value} {xs : List Value} (h : w.ownsRow base e 1 v n xs) :
    ∃ a cap, v = .slice a n cap ∧ n ≤ cap ∧ cap ≤ maxLen ∧ (a = none → cap = 0) ∧ CellsS w (fun b => base ≤ b) a n xs := by
  rcases h.2 with ⟨h1, h2⟩ | ⟨g, cap, cur, h1, h2, h3, h4, h5, _⟩
  · subst h1 h2
    have hx : xs = [] := List.length_eq_zero_iff.1 (by have := h.1; omega)
    subst hx
    exact ⟨none, 0, rfl, Nat.le_refl _, by unfold maxLen; omega, fun _ => rfl, CellsS.nil_⟩
  · subst h1
    refine ⟨_, cap, rfl, h4, h5, (fun h => by cases h), by have := h.1; omega, fun k v hk => ⟨g, 0, rfl, (Array.getElem?_eq_some_iff.1 h3).1, h2, ?_⟩⟩
    have := h.cells (g := g) rfl k v hk
    rw [Addr.add_mid] at this
    exact this

section
variable {P : Program} {W : World}

/-- append to a row of the call's own, from whatever slice. -/
theorem run_append_rowS {t e bytes : Nat} (E : Elem1 P t e bytes) (ty : TypeId) (base : Nat) (v : Value) (n : Nat) (xs : List Value) (hown : W.ownsRow base e 1 v n xs) (T : Nat → Prop) (ax : Option Addr) (m c : Nat) (ys : List Value) (hy : CellsS W T ax m ys)
    (h1 : ∀ u ∈ ys, u.oneCell' = true) (hnone : ax = none → c = 0) (h63 : n + m ≤ maxLen) (hbytes : (n + m) * bytes ≤ 140737488355328) (hbase : base ≤ W.heap.size) :
    ∃ v' w', (Builtin.append_ #[t, t] ty #[v, .slice ax m c]).run P W = .ok v' w' ∧ w'.ownsRow base e 1 v' (n + m) (xs ++ ys) ∧ W.grownBy w' v.ownBlock := by
  obtain ⟨i, z, hi, hz, hs, hb, hzs⟩ := E.row
  cases ax with
  | none =>
    have h0 : ys = [] := by
      cases ys with
      | nil => rfl
      | cons x xs => obtain ⟨b, o, h1, _⟩ := hy.at_ 0 x rfl; cases h1
    subst h0
    have hm : m = 0 := by have := hy.len; simpa using this.symm
    have hc := hnone rfl
    subst hm hc
    exact ⟨v, W, run_append_owned_none W base t ty e i 1 E.ht hi v n xs hown, by simpa using hown, World.grownBy.refl _ _⟩
  | some ad =>
    obtain ⟨v', w', r1, r2, r3, _⟩ := run_append_own (P := P) W base t ty e i z 1 bytes E.ht hi hz hs hb hzs (by omega) v n xs hown ad m c ys (by rw [hy.len]; omega) hy.from_ h1 h63 hbytes hbase
    exact ⟨v', w', r1, r2, r3⟩

/-- append to a slice that is full, from whatever slice. -/
theorem run_append_fullS {t e bytes : Nat} (E : Elem1 P t e bytes) (ty : TypeId) (S : Nat → Prop) (a : Option Addr) (n : Nat) (xs : List Value) (hx : CellsS W S a n xs) (T : Nat → Prop) (ax : Option Addr) (m c : Nat) (ys : List Value) (hy : CellsS W T ax m ys)
    (h1 : ∀ u ∈ ys, u.oneCell' = true) (hnone : a = none → n = 0) (h63 : n + m ≤ maxLen) (hbytes : (n + m) * bytes ≤ 140737488355328) :
    ∃ a' cap' w', (Builtin.append_ #[t, t] ty #[.slice a n n, .slice ax m c]).run P W = .ok (.slice a' (n + m) cap') w' ∧ CellsS w' (fun b => (S b ∧ m = 0) ∨ W.heap.size ≤ b) a' (n + m) (xs ++ ys) ∧ n + m ≤ cap' ∧ cap' ≤ maxLen ∧ (a' = none → cap' = 0) ∧ Below W.heap.size W w' := by
  obtain ⟨i, z, hi, hz, hs, hb, hzs⟩ := E.row
  have hsrc : Src P i.size t (.slice ax m c) m ys W := by rw [hs]; exact hy.src h1 E.ht
  by_cases hm : m = 0
  · subst hm
    have h0 : ys = [] := List.length_eq_zero_iff.1 hy.len
    subst h0
    refine ⟨a, n, W, run_append_nothing W t t ty e i E.ht hi a n n (Nat.le_refl _) _ hsrc, ?_, Nat.le_refl _, by omega, hnone, Below.refl _ _⟩
    rw [List.append_nil]
    exact hx.mono fun b hb => .inl ⟨hb, rfl⟩
  · have hold : (Builtin.firstCells i.size n (.slice a n n)).run P W.drew = .ok xs.toArray W.drew := by
      cases a with
      | none =>
        have h0 : xs = [] := by
          cases xs with
          | nil => rfl
          | cons x xs => obtain ⟨b, o, h1, _⟩ := hx.at_ 0 x rfl; cases h1
        subst h0
        rw [hnone rfl]
        exact run_firstCells_none W.drew i.size 0 0 0
      | some ad =>
        refine run_firstCells_some W.drew i.size n ad n n xs (by rw [hx.len, hs]; omega) ?_
        have := hx.from_
        simpa using this
    have h64 : n + m ≤ 9223372036854775807 := by simp only [maxLen] at h63; omega
    have hr := run_append_grow_src (P := P) W t t ty e i z E.ht hi hz a n n xs hold _ m ys hsrc (by omega) (by omega) (growslice_fits (by omega) (by rw [hb]; exact hbytes))
    have hge := grownCap_ge W (n + m) n e
    have hcm : grownCap W (n + m) n e ≤ maxLen := grownCap_le_maxLen W (n + m) n e h63
    refine ⟨_, _, _, hr, ⟨by rw [List.length_append, hx.len, hy.len], fun k v hk => ⟨W.heap.size, 0, rfl, by simp, .inr (Nat.le_refl _), ?_⟩⟩, hge, hcm, (fun h => by cases h), ?_⟩
    · have hnew := heap_alloc_new W.drew (.cells ((xs ++ ys).toArray ++ Builtin.zeroCells z.cells (grownCap W (n + m) n e - (n + m))) e)
      have hlt := (List.getElem?_eq_some_iff.1 hk).1
      rw [World.cell?]
      have e1 : W.drew.heap.size = W.heap.size := rfl
      rw [e1] at hnew
      simp only [hnew]
      simp
      rw [Array.getElem?_append_left (by simpa using hlt)]
      simpa using hk
    · exact (Below.refl _ _).drew.alloc (Nat.le_refl _) _

variable {ops : Array Oper} {rest : List Oper} {o : Oper} {a : Act} {Q : Exit → Act → World → Prop}

theorem wpList_append_rowS (hgd : o.guard = none) (s x : Operand) (t : TypeId) (ho : o.op = .call { callee := .builtin .append, args := #[s, x], argTypes := #[t, t] }) {e bytes : Nat} (E : Elem1 P t e bytes) (base : Nat) (v : Value) (n : Nat) (xs : List Value) (hs : a.eval s = v) (hown : W.ownsRow base e 1 v n xs)
    (T : Nat → Prop) (ax : Option Addr) (m c : Nat) (ys : List Value) (hx : a.eval x = .slice ax m c) (hy : CellsS W T ax m ys)
    (h1 : ∀ u ∈ ys, u.oneCell' = true) (hnone : ax = none → c = 0) (h63 : n + m ≤ maxLen) (hbytes : (n + m) * bytes ≤ 140737488355328) (hbase : base ≤ W.heap.size)
    (h : ∀ v' w', w'.ownsRow base e 1 v' (n + m) (xs ++ ys) → W.grownBy w' v.ownBlock → wpList P ops Q rest (a.put o.dst v') w') : wpList P ops Q (o :: rest) a W := by
  refine wpList_plain hgd fun K hK => ?_
  obtain ⟨v', w', hr, h2, h3⟩ := run_append_rowS (P := P) E o.type base v n xs hown T ax m c ys hy h1 hnone h63 hbytes hbase
  unfold Oper.wp execOp
  simp only [ho, resolve, invoke, builtin, Sem.run_bind, Sem.run_pure, Result.andThen_ok, List.map_toArray, List.map_cons, List.map_nil, hs, hx, hr]
  exact hK _ _ (h v' w' h2 h3)

theorem wpList_append_fullS (hgd : o.guard = none) (s x : Operand) (t : TypeId) (ho : o.op = .call { callee := .builtin .append, args := #[s, x], argTypes := #[t, t] }) {e bytes : Nat} (E : Elem1 P t e bytes) (S : Nat → Prop) (b : Option Addr) (n : Nat) (xs : List Value) (hs : a.eval s = .slice b n n) (hx' : CellsS W S b n xs)
    (T : Nat → Prop) (ax : Option Addr) (m c : Nat) (ys : List Value) (hx : a.eval x = .slice ax m c) (hy : CellsS W T ax m ys)
    (h1 : ∀ u ∈ ys, u.oneCell' = true) (hnone : b = none → n = 0) (h63 : n + m ≤ maxLen) (hbytes : (n + m) * bytes ≤ 140737488355328)
    (h : ∀ a' cap' w', CellsS w' (fun b => (S b ∧ m = 0) ∨ W.heap.size ≤ b) a' (n + m) (xs ++ ys) → n + m ≤ cap' → cap' ≤ maxLen → (a' = none → cap' = 0) → Below W.heap.size W w' → wpList P ops Q rest (a.put o.dst (.slice a' (n + m) cap')) w') : wpList P ops Q (o :: rest) a W := by
  refine wpList_plain hgd fun K hK => ?_
  obtain ⟨a', cap', w', hr, h2, h3, h4, h5, h6⟩ := run_append_fullS (P := P) E o.type S b n xs hx' T ax m c ys hy h1 hnone h63 hbytes
  unfold Oper.wp execOp
  simp only [ho, resolve, invoke, builtin, Sem.run_bind, Sem.run_pure, Result.andThen_ok, List.map_toArray, List.map_cons, List.map_nil, hs, hx, hr]
  exact hK _ _ (h a' cap' w' h2 h3 h4 h5 h6)
end
/-- Bytes in memory that is new since B. -/
def NewBytes (B : Nat) (x : List UInt8) (v : Value) (W : World) : Prop := ∃ a n c, v = .slice a n c ∧ BytesS W (fun b => B ≤ b) a n c x
theorem NewBytes.later {B : Nat} {x : List UInt8} : ∀ v W W', NewBytes B x v W → Below W.heap.size W W' → NewBytes B x v W' :=
  fun _ _ _ ⟨a, n, c, h1, h2⟩ hb => ⟨a, n, c, h1, h2.ext hb⟩
/-- A slice of one slice of bytes, both new since B. -/
def NewPiece (B : Nat) (x : List UInt8) (v : Value) (W : World) : Prop := ∃ g a n c, v = .slice (some ⟨g, 0, none⟩) 1 1 ∧ B ≤ g ∧ g < W.heap.size ∧ W.cell? ⟨g, 0, none⟩ = some (.slice a n c) ∧ BytesS W (fun b => B ≤ b) a n c x
theorem NewPiece.later {B : Nat} {x : List UInt8} : ∀ v W W', NewPiece B x v W → Below W.heap.size W W' → NewPiece B x v W' :=
  fun _ _ _ ⟨g, a, n, c, h1, h2, h3, h4, h5⟩ hb => ⟨g, a, n, c, h1, h2, Nat.lt_of_lt_of_le h3 hb.size, by rw [hb.cell (p := ⟨g, 0, none⟩) h3]; exact h4, h5.ext hb⟩
/-- Pieces of a file. -/
def Pieces (S : Nat → Prop) (L : List (List UInt8)) (v : Value) (W : World) : Prop := ∃ a n c, v = .slice a n c ∧ LooseS W S a n c L
theorem Pieces.later {S : Nat → Prop} {L : List (List UInt8)} : ∀ v W W', Pieces S L v W → Below W.heap.size W W' → Pieces S L v W' :=
  fun _ _ _ ⟨a, n, c, h1, h2⟩ hb => ⟨a, n, c, h1, h2.ext hb⟩

/-- The cells of a slice of pieces. -/
def PieceCells (W : World) (S : Nat → Prop) (vs : List Value) (L : List (List UInt8)) : Prop :=
  vs.length = L.length ∧ ∀ (k : Nat) (p : List UInt8), L[k]? = some p → ∃ pa pl pc, vs[k]? = some (.slice pa pl pc) ∧ BytesS W S pa pl pc p
theorem PieceCells.ext {W W' : World} {S : Nat → Prop} {vs : List Value} {L : List (List UInt8)} (h : PieceCells W S vs L) (hb : Below W.heap.size W W') : PieceCells W' S vs L :=
  ⟨h.1, fun k p hk => by obtain ⟨pa, pl, pc, h1, h2⟩ := h.2 k p hk; exact ⟨pa, pl, pc, h1, h2.ext hb⟩⟩
theorem PieceCells.mono {W : World} {S T : Nat → Prop} {vs : List Value} {L : List (List UInt8)} (h : PieceCells W S vs L) (hst : ∀ b, S b → T b) : PieceCells W T vs L :=
  ⟨h.1, fun k p hk => by obtain ⟨pa, pl, pc, h1, h2⟩ := h.2 k p hk; exact ⟨pa, pl, pc, h1, h2.mono hst⟩⟩
theorem PieceCells.append {W : World} {S : Nat → Prop} {vs ws : List Value} {L K : List (List UInt8)} (h : PieceCells W S vs L) (k : PieceCells W S ws K) : PieceCells W S (vs ++ ws) (L ++ K) := by
  refine ⟨by simp [h.1, k.1], fun i p hp => ?_⟩
  by_cases hi : i < L.length
  · rw [List.getElem?_append_left hi] at hp
    obtain ⟨pa, pl, pc, h1, h2⟩ := h.2 i p hp
    exact ⟨pa, pl, pc, by rw [List.getElem?_append_left (by rw [h.1]; exact hi)]; exact h1, h2⟩
  · rw [List.getElem?_append_right (by omega)] at hp
    obtain ⟨pa, pl, pc, h1, h2⟩ := k.2 _ p hp
    exact ⟨pa, pl, pc, by rw [List.getElem?_append_right (by rw [h.1]; omega), h.1]; exact h1, h2⟩
theorem PieceCells.one {W : World} {S : Nat → Prop} {vs : List Value} {L : List (List UInt8)} (h : PieceCells W S vs L) : ∀ u ∈ vs, u.oneCell' = true := fun u hu => by
  obtain ⟨k, hk, e⟩ := List.mem_iff_getElem.1 hu
  obtain ⟨pa, pl, pc, h1, _⟩ := h.2 k (L[k]'(by rw [← h.1]; exact hk)) (List.getElem?_eq_getElem (by rw [← h.1]; exact hk))
  rw [List.getElem?_eq_getElem hk] at h1
  have h2 := Option.some.inj h1
  rw [e] at h2
  rw [h2]; rfl
theorem LooseS.open_ {W : World} {S : Nat → Prop} {a : Option Addr} {n c : Nat} {L : List (List UInt8)} (h : LooseS W S a n c L) : ∃ vs, CellsS W S a n vs ∧ PieceCells W S vs L := by
  have key : ∀ i, i < L.length → ∃ v : Value, ∃ p, L[i]? = some p ∧ ∃ b o pa pl pc, a = some ⟨b, o, none⟩ ∧ b < W.heap.size ∧ S b ∧ W.cell? ⟨b, o + i, none⟩ = some v ∧ v = .slice pa pl pc ∧ BytesS W S pa pl pc p := fun i hi => by
    obtain ⟨b, o, pa, pl, pc, h1, h2, h3, h4, h5⟩ := h.hat i L[i] (List.getElem?_eq_getElem hi)
    exact ⟨_, L[i], List.getElem?_eq_getElem hi, b, o, pa, pl, pc, h1, h2, h3, h4, rfl, h5⟩
  have list : ∀ m, m ≤ L.length → ∃ vs : List Value, vs.length = m ∧ ∀ (k : Nat) (v : Value), vs[k]? = some v → ∃ p, L[k]? = some p ∧ ∃ b o pa pl pc, a = some ⟨b, o, none⟩ ∧ b < W.heap.size ∧ S b ∧ W.cell? ⟨b, o + k, none⟩ = some v ∧ v = .slice pa pl pc ∧ BytesS W S pa pl pc p := by
    intro m
    induction m with
    | zero => intro _; exact ⟨[], rfl, fun k v hk => by simp at hk⟩
    | succ m ih =>
      intro hm
      obtain ⟨vs, hl, hv⟩ := ih (by omega)
      obtain ⟨v, hv2⟩ := key m (by omega)
      refine ⟨vs ++ [v], by simp [hl], fun k u hk => ?_⟩
      by_cases hkm : k < vs.length
      · rw [List.getElem?_append_left hkm] at hk; exact hv k u hk
      · rw [List.getElem?_append_right (by omega)] at hk
        have hlt := (List.getElem?_eq_some_iff.1 hk).1
        simp at hlt
        have e : k = m := by omega
        subst e
        rw [hl, Nat.sub_self] at hk
        cases hk
        exact hv2
  obtain ⟨vs, hl, hv⟩ := list L.length (Nat.le_refl _)
  refine ⟨vs, ⟨by rw [hl, h.hlen], fun k v hk => ?_⟩, hl, fun k p hp => ?_⟩
  · obtain ⟨p, _, b, o, _, _, _, h1, h2, h3, h4, _⟩ := hv k v hk
    exact ⟨b, o, h1, h2, h3, h4⟩
  · have hk : k < vs.length := by rw [hl]; exact (List.getElem?_eq_some_iff.1 hp).1
    obtain ⟨p', hp', b, o, pa, pl, pc, _, _, _, _, h5, h6⟩ := hv k vs[k] (List.getElem?_eq_getElem hk)
    rw [hp] at hp'; cases hp'
    exact ⟨pa, pl, pc, by rw [List.getElem?_eq_getElem hk, h5], h6⟩
theorem LooseS.shut_ {W : World} {S : Nat → Prop} {a : Option Addr} {n c : Nat} {L : List (List UInt8)} {vs : List Value} (h : CellsS W S a n vs) (k : PieceCells W S vs L) (h1 : n ≤ c) (h2 : c ≤ maxLen) (h3 : n ≤ 140737488355328) (h4 : a = none → c = 0) : LooseS W S a n c L :=
  ⟨by rw [← k.1, h.len], h1, h2, h3, fun i p hp => by
    obtain ⟨pa, pl, pc, g1, g2⟩ := k.2 i p hp
    obtain ⟨b, o, f1, f2, f3, f4⟩ := h.at_ i _ g1
    exact ⟨b, o, pa, pl, pc, f1, f2, f3, f4, g2⟩, h4⟩

theorem newPiece_alloc {B : Nat} {x : List UInt8} {W : World} {a : Option Addr} {n c : Nat} {t : TypeId} (h : B ≤ W.heap.size) (hB : BytesS W (fun b => B ≤ b) a n c x) :
    Below W.heap.size W (W.alloc (.cells #[.slice a n c] t)) ∧ NewPiece B x (.slice (some ⟨W.heap.size, 0, none⟩) 1 1) (W.alloc (.cells #[.slice a n c] t)) :=
  ⟨(Below.refl _ _).alloc (Nat.le_refl _) _, W.heap.size, a, n, c, rfl, h, by simp, (Blk.new W [_] t).cell 0 rfl, hB.ext ((Below.refl _ _).alloc (Nat.le_refl _) _)⟩
theorem cells_one {W : World} {S : Nat → Prop} {g : Nat} {v : Value} (h1 : S g) (h2 : g < W.heap.size) (h3 : W.cell? ⟨g, 0, none⟩ = some v) : CellsS W S (some ⟨g, 0, none⟩) 1 [v] :=
  ⟨rfl, fun k u hk => by
    match k, hk with
    | 0, hk => cases hk; exact ⟨g, 0, rfl, h2, h1, h3⟩
    | k + 1, hk => simp at hk⟩
theorem full_len : ∀ {L : List (List UInt8)}, (L.all fun p => !p.isEmpty) = true → L.length ≤ (L.map List.length).sum
  | [], _ => by simp
  | p :: L, h => by
    rw [List.all_cons, Bool.and_eq_true] at h
    have ih := full_len h.2
    have hp : 1 ≤ p.length := by cases p with | nil => simp at h | cons => simp
    simp only [List.length_cons, List.map_cons, List.sum_cons]
    omega
theorem pieces_append {W0 W W' : World} {S : Nat → Prop} {vs : List Value} {L : List (List UInt8)} {x : List UInt8} {a a' : Option Addr} {n c c' m : Nat} (hp : PieceCells W S vs L) (hc : CellsS W' (fun b => (S b ∧ 1 = 0) ∨ W.heap.size ≤ b) a' m (vs ++ [.slice a n c])) (hB : BytesS W (fun b => W0.heap.size ≤ b) a n c x)
    (hb : Below W.heap.size W W') (hs : W0.heap.size ≤ W.heap.size) (h1 : m ≤ c') (h2 : c' ≤ maxLen) (h3 : m ≤ 140737488355328) (h4 : a' = none → c' = 0) : LooseS W' (Or S W0) a' m c' (L ++ [x]) := by
  refine LooseS.shut_ (hc.mono fun b h => ?_) (PieceCells.append ((hp.ext hb).mono fun b h => Or.inl h) ⟨rfl, fun k p hk => ?_⟩) h1 h2 h3 h4
  · rcases h with ⟨_, h⟩ | h
    · cases h
    · exact .inr (by omega)
  · match k, hk with
    | 0, hk => cases hk; exact ⟨a, n, c, rfl, (hB.ext hb).mono fun b h => Or.inr h⟩
    | k + 1, hk => simp at hk
theorem gives_append {P : Program} {o : Oper} {a : Act} {W w' : World} {R : Value → World → Prop} {s x : Operand} {t : TypeId} {v1 v2 v' : Value} (ho : o.op = .call { callee := .builtin .append, args := #[s, x], argTypes := #[t, t] }) (hs : a.eval s = v1) (hx : a.eval x = v2)
    (hr : (Builtin.append_ #[t, t] o.type #[v1, v2]).run P W = .ok v' w') (hb : Below W.heap.size W w') (hR : R v' w') : Gives P o a W R := by
  unfold Gives execOp
  simp only [ho, resolve, invoke, builtin, Sem.run_bind, Sem.run_pure, Result.andThen_ok, List.map_toArray, List.map_cons, List.map_nil, hs, hx, hr]
  exact ⟨hb, hR⟩
theorem PieceCells.same {W W' : World} {S : Nat → Prop} {vs : List Value} {L : List (List UInt8)} (h : PieceCells W S vs L) (hs : W.heap.size ≤ W'.heap.size) (hb : ∀ b, S b → b < W.heap.size → W'.heap[b]? = W.heap[b]?) : PieceCells W' S vs L :=
  ⟨h.1, fun k p hk => by obtain ⟨pa, pl, pc, h1, h2⟩ := h.2 k p hk; exact ⟨pa, pl, pc, h1, h2.same hs hb⟩⟩
theorem ownsRow_ext {w w' : World} {base e size n : Nat} {v : Value} {xs : List Value} (h : w.ownsRow base e size v n xs) (hb : Below w.heap.size w w') : w'.ownsRow base e size v n xs := by
  refine ⟨h.1, ?_⟩
  rcases h.2 with h2 | ⟨g, cap, cur, h1, h2, h3, h4⟩
  · exact .inl h2
  · exact .inr ⟨g, cap, cur, h1, h2, (hb.block g (Array.getElem?_eq_some_iff.1 h3).1).trans h3, h4⟩
theorem below_own {W0 w w' : World} {base B e size n : Nat} {v : Value} {xs : List Value} (hb : Below B W0 w) (hs : B ≤ w.heap.size) (h : w.ownsRow base e size v n xs) (hB : B ≤ base) (hg : w.grownBy w' v.ownBlock) : Below B W0 w' :=
  hb.grown hg hs fun k hk => Nat.le_trans hB (h.lt k hk).1
theorem pieces_one {W : World} {S : Nat → Prop} {a : Option Addr} {n c : Nat} {x : List UInt8} (h : BytesS W S a n c x) : PieceCells W S [.slice a n c] [x] :=
  ⟨rfl, fun k p hk => by
    match k, hk with
    | 0, hk => cases hk; exact ⟨a, n, c, rfl, h⟩
    | k + 1, hk => simp at hk⟩
end Go.Dav

namespace Go.Proofs.Ythpdcbklaapngaa
set_option linter.unusedVariables false
set_option linter.unusedSimpArgs false
open Go.RowKit Go.Dav
attribute [local go_sem] Gives ite_val ite_val_true

theorem Try_infoU8 : (Try.prog.info? 5).map (fun i => (i.zero, i.size, i.bytes)) = some (some (.int .u8 0), 1, 1) := by kernel_rfl
theorem Try_elemU8 : Elem1 Try.prog 24 5 1 := by
  obtain ⟨i0, hi, hz0, hz1, hz2⟩ := info_parts Try_infoU8
  exact ⟨Try.underlying24, i0, _, hi, hz0, hz1, hz2, rfl⟩
theorem Try_infoBytes : (Try.prog.info? 24).map (fun i => (i.zero, i.size, i.bytes)) = some (some (.slice none 0 0), 1, 24) := by kernel_rfl
theorem Try_elemBytes : Elem1 Try.prog 25 24 24 := by
  obtain ⟨i0, hi, hz0, hz1, hz2⟩ := info_parts Try_infoBytes
  exact ⟨Try.underlying25, i0, _, hi, hz0, hz1, hz2, rfl⟩

theorem Try_eqNil (w : World) (a : Option Addr) (n c : Nat) : (binOp .eql 24 (.slice a n c) (.slice none 0 0)).run Try.prog w = .ok (.bool a.isNone) w := Lib.run_eql_slice_nil w _ _ a n c 0 0 Try.underlying24

/-- Bytes are handed back, in new memory. -/
def GivesBytes (w : World) (x : List UInt8) (e : Ending) (w' : World) : Prop :=
  ∃ a n c, e = .returned (.slice a n c) ∧ BytesS w' (fun b => w.heap.size ≤ b) a n c x ∧ Below w.heap.size w w'

/-- Bytes are handed back, in a row of the call's own. -/
def GivesOwn (t : TypeId) (w : World) (x : List UInt8) (e : Ending) (w' : World) : Prop :=
  ∃ v, e = .returned v ∧ w'.ownsRow w.heap.size t 1 v x.length (u8s x) ∧ Below w.heap.size w w'

theorem own_bytes {w : World} {base e n : Nat} {v : Value} {l : List UInt8} (h : w.ownsRow base e 1 v n (u8s l)) (hn : n ≤ 140737488355328) : ∃ a c, v = .slice a n c ∧ BytesS w (fun b => base ≤ b) a n c l := by
  obtain ⟨a, cap, h1, h2, h3, h4, h5⟩ := own_cells h
  exact ⟨a, cap, h1, BytesS.of_cells h5 h2 h3 hn h4⟩

set_option maxHeartbeats 1000000 in
theorem Try_Clone (a : Option Addr) (al ac : Nat) (x : List UInt8) (S : Nat → Prop) (w : World) (hx : BytesS w S a al ac x) :
    Calls Try.prog 33 #[.slice a al ac] w (GivesBytes w x) := by
  cases a with
  | none =>
    have h0 := hx.at_.hnil rfl
    have h1 := hx.at_.hcap
    obtain rfl : al = 0 := by omega
    subst h0
    have hx0 : x = [] := List.length_eq_zero_iff.1 hx.at_.hlen
    subst hx0
    clear hx h1
    have knil := @Try_eqNil
    go_enter Try.func33, Try.ntmps33
    go_wp2
    go_ret
    exact ⟨none, 0, 0, rfl, BytesS.nil_, (by repeat (first | (with_reducible exact Below.refl _ _) | (with_reducible exact Below.refl _ _) | (with_reducible refine Below.setCell ?_ (by first | omega | (simp; done) | (simp; omega)) _) | (with_reducible refine Below.alloc ?_ (by first | omega | (simp; done) | (simp; omega)) _) | (with_reducible refine Below.drew ?_) | (with_reducible refine below_drewN ?_ _)))⟩
  | some ad =>
    have hc := (hx.cells.ext ((Below.refl _ w).alloc (Nat.le_refl _) (.cells #[] 5)))
    have hf := hx.at_.hfew
    have HX := Lib.hid hc
    clear hx hc
    have knil := @Try_eqNil
    go_enter Try.func33, Try.ntmps33
    have hown := World.ownsRow_made (e := 5) (size := 1) w #[] 0 (Nat.le_refl _) (by unfold maxLen; omega) rfl
    go_wp2_with (at_builtin; refine wpList_append_rowS rfl (.tmp 5) (.tmp 6) 24 rfl Try_elemU8 w.heap.size _ 0 [] rfl hown S (some ad) al ac (u8s x) rfl HX.out (u8s_one x) (fun h => by cases h) (by unfold maxLen; omega) (by omega) (by simp) ?_; intro v' w1 hown1 hgrow)
    rw [Nat.zero_add, List.nil_append] at hown1
    obtain ⟨a', c', rfl, hB⟩ := own_bytes hown1 hf
    have hbel : Below w.heap.size w w1 := ((Below.refl _ w).alloc (Nat.le_refl _) _).grown hgrow (by simp) (fun k hk => (hown.lt k hk).1)
    clear hown1 hgrow
    go_wp2
    go_ret
    exact ⟨a', al, c', rfl, hB, hbel⟩
/-- The bytes up to the k-th piece. -/
def allTo (F : FileD) (k : Nat) : List UInt8 := F.firm ++ (F.loose.take k).flatten
theorem allTo_succ {F : FileD} {k : Nat} {p : List UInt8} (h : F.loose[k]? = some p) : allTo F (k + 1) = allTo F k ++ p := by
  unfold allTo; rw [List.take_add_one, h]; simp
theorem allTo_len (F : FileD) (k : Nat) : (allTo F k).length = F.firm.length + sumTo F.loose k := by
  unfold allTo sumTo; simp [List.length_flatten]
theorem allTo_le (F : FileD) (k : Nat) : (allTo F k).length ≤ F.many := by
  rw [allTo_len]; have := sumTo_mono F.loose k; unfold FileD.many; omega
theorem allTo_all (F : FileD) : allTo F F.loose.length = F.all := by unfold allTo FileD.all; rw [List.take_length]

def TryAllRel (w : World) (F : FileD) (cs : List Value) (ix v : Value) (wr : World) : Prop :=
  ∃ k : Nat, k ≤ F.loose.length ∧ ix = .int .i64 k ∧ wr.ownsRow (w.heap.size + 1) 5 1 v (allTo F k).length (u8s (allTo F k)) ∧ Below (w.heap.size + 1) (w.alloc (.cells cs.toArray 27)) wr

end Go.Proofs.Ythpdcbklaapngaa

namespace Go.Dav
set_option linter.unusedVariables false
set_option linter.unusedSimpArgs false
open Go Go.RowKit

/-- A sum in four bytes, the lowest first. -/
def crcFour (s : Nat) : List UInt8 := [UInt8.ofNat s, UInt8.ofNat (s / 256), UInt8.ofNat (s / 65536), UInt8.ofNat (s / 16777216)]
theorem crcFour_cells (s : Nat) : u8s (crcFour s) = [.int .u8 ((s : Int) % 256), .int .u8 ((s : Int) / 256 % 256), .int .u8 ((s : Int) / 65536 % 256), .int .u8 ((s : Int) / 16777216 % 256)] := by
  simp [u8s, crcFour]
/-- The sum of bytes. -/
def crcSum (l : List UInt8) : Nat := 4294967295 - crcOf 4294967295 l
theorem crcSum_lt (l : List UInt8) : crcSum l < 4294967296 := by unfold crcSum; omega
/-- Bytes, and their sum behind them. -/
def crcLay (l : List UInt8) : List UInt8 := l ++ crcFour (crcSum l)
end Go.Dav
namespace Go.Proofs.Ythpdcbklaapngaa
set_option linter.unusedVariables false
set_option linter.unusedSimpArgs false
open Go.RowKit Go.Dav
attribute [local go_sem] Gives ite_val ite_val_true

theorem Try_make4 (n : Nat) (hn : n ≤ 1048576) (W : World) : (Instr.makeSlice 24 (.int .i64 (n : Int)) (.int .i64 ((n : Int) + 4))).run Try.prog W = .ok (.slice (some ⟨W.heap.size, 0, none⟩) n (n + 4)) (W.alloc (.cells (madeCells #[.int .u8 0] (n + 4)) 5)) := by
  have hinfo : (Try.prog.info? 5).map (fun i => (i.zero, i.size, i.bytes)) = some (some (.int .u8 0), 1, 1) := by kernel_rfl
  obtain ⟨i, hi, hz, hs, hb⟩ := info_parts hinfo
  have h := run_make (P := Try.prog) (w := W) 24 5 i (.int .u8 0) Try.underlying24 hi hz .i64 .i64 (n : Int) ((n : Int) + 4) (by omega) (by omega) (by rw [hb]; omega) (by omega)
  rw [hs] at h
  simp only [Int.toNat_natCast, show ((n : Int) + 4).toNat = n + 4 by omega, Nat.mul_one] at h
  exact h
set_option maxRecDepth 8000 in
set_option maxHeartbeats 4000000 in
theorem Try_crcLay (a : Option Addr) (n c : Nat) (l : List UInt8) (w : World) (hl : BytesAt w a n c l) (hn : n ≤ 1048576) :
    Calls Try.prog 27 #[.slice a n c] w fun e w' => ∃ p, e = .returned (.slice (some ⟨p, 0, none⟩) (n + 4) (n + 4)) ∧ CellsS w' (fun b => w.heap.size ≤ b) (some ⟨p, 0, none⟩) (n + 4) (u8s (crcLay l)) ∧ Below w.heap.size w w' := by
  have hinfo : (Try.prog.info? 5).map (fun i => (i.zero, i.size, i.bytes)) = some (some (.int .u8 0), 1, 1) := by kernel_rfl
  obtain ⟨i0, hi0, _, hs0, _⟩ := info_parts hinfo
  have HI0 := Lib.hid hi0
  have HS0 := Lib.hid hs0
  clear hinfo hi0 hs0
  have HL := Lib.hid hl
  have hmk := Try_make4 n hn
  have hn' : (n : Int) ≤ 1048576 := by omega
  have hcs := (hl.ext ((Below.refl _ w).alloc (Nat.le_refl _) (.cells (madeCells #[.int .u8 0] (n + 4)) 5))).s.cells
  have HCS := Lib.hid hcs
  have hg0 : (w.alloc (.cells (madeCells #[.int .u8 0] (n + 4)) 5)).heap[w.heap.size]? = some (.cells (List.replicate (n + 4) (.int .u8 0)).toArray 5 (0, 0)) := by
    rw [← toList_madeCells_one]
    unfold World.alloc
    simp
  have HG0 := Lib.hid hg0
  have hlen := hl.hlen
  have HLN := Lib.hid hlen
  have HN := Lib.hid hn
  have HB0 := Lib.hid (show Below w.heap.size w (w.alloc (.cells (madeCells #[.int .u8 0] (n + 4)) 5)) from (by repeat (first | (with_reducible exact Below.refl _ _) | (with_reducible exact Below.refl _ _) | (with_reducible refine Below.setCell ?_ (by first | omega | (simp; done) | (simp; omega)) _) | (with_reducible refine Below.alloc ?_ (by first | omega | (simp; done) | (simp; omega)) _) | (with_reducible refine Below.drew ?_) | (with_reducible refine below_drewN ?_ _))))
  have HH1 := Lib.hid (show (u8s l).length = Nat.min n n by rw [u8s_len, hlen]; exact (Nat.min_self n).symm)
  have HH2 := Lib.hid (show 0 + (u8s l).length ≤ (List.replicate (n + 4) (Value.int .u8 0)).length by simp [u8s_len, hlen])
  have HH3 := Lib.hid (show 0 < (u8s l).length → (some (⟨w.heap.size, 0, none⟩ : Addr)) = some ⟨w.heap.size, 0, none⟩ ∧ ∃ ad, a = some ad ∧ ∀ j v, (u8s l)[j]? = some v → (w.alloc (.cells (madeCells #[.int .u8 0] (n + 4)) 5)).cell? (ad.add j) = some v by
    intro h0
    refine ⟨rfl, ?_⟩
    have hl0 : 0 < l.length := by rw [u8s_len] at h0; exact h0
    obtain ⟨b, o, rfl, _⟩ := hl.hat 0 _ (List.getElem?_eq_getElem hl0)
    exact ⟨_, rfl, hcs.from_⟩)
  have hlay : crcSum l = 4294967295 - crcOf 4294967295 l := rfl
  have HSL := Lib.hid (crcSum_lt l)
  obtain ⟨s, hs⟩ : ∃ s, crcSum l = s := ⟨_, rfl⟩
  have HSS := Lib.hid hs
  have hnm := hl.hmax
  have HNM := Lib.hid hnm
  clear hl hcs hg0 hlen hlay hs hnm
  go_enter Try.func27, Try.ntmps27
  go_wp2_with (refine wpList_copy_splice rfl (.tmp 12) (.tmp 13) 24 24 rfl 5 Try.underlying24 (by kernel_rfl) (some ⟨w.heap.size, 0, none⟩) a n (n + 4) n c rfl rfl w.heap.size 0 (List.replicate (n + 4) (.int .u8 0)) 5 HG0.out (u8s l) HH1.out HH3.out HH2.out (u8s_one l) w.heap.size w HB0.out (Nat.le_refl _) ?_; intro w1 hcell hb1; clear hmk)
  have hown : w1.ownsRow w.heap.size 5 1 (.slice (some ⟨w.heap.size, 0, none⟩) n (n + 4)) n (u8s l) := by
    refine ⟨by rw [u8s_len, HLN.out]; omega, .inr ⟨_, _, _, rfl, Nat.le_refl _, hcell.out, by omega, by unfold maxLen; omega, ?_, ?_⟩⟩
    · have h := length_splice (List.replicate (n + 4) (Value.int .u8 0)) 0 (u8s l) HH2.out
      simpa using h
    · show ((splice (List.replicate (n + 4) (Value.int .u8 0)) 0 (u8s l))).take (n * 1) = u8s l
      unfold splice
      rw [List.take_zero, List.nil_append, Nat.mul_one, List.take_left' (by rw [u8s_len, HLN.out])]
  have HOWN := Lib.hid hown
  have HB1 := Lib.hid hb1
  have HL1 := Lib.hid (HL.out.ext (hb1.mono (Nat.le_refl _)))
  clear hown hb1 hcell
  have hA := Try_crcSum a n c l w1 HL1.out
  rw [show 4294967295 - crcOf 4294967295 l = s from HSS.out] at hA
  with_reducible refine hA.mono ?_
  rintro e w2 ⟨rfl, hb⟩
  have HO2 := Lib.hid (ownsRow_ext HOWN.out hb)
  have HB2 := Lib.hid (HB1.out.trans (hb.mono HB1.out.size))
  clear hA hb
  go_wp2_with fail
  go_loopg [3, 5] 4 (fun g vx ix wr => ∃ k : Nat, k ≤ 4 ∧ g = 4 - k ∧ ix = .int .i64 k ∧ vx = .slice (some ⟨w.heap.size, 0, none⟩) (n + k) (n + 4) ∧ wr.ownsRow w.heap.size 5 1 vx (n + k) (u8s (l ++ (crcFour s).take k)) ∧ Below w.heap.size w wr)
  case atStart => exact ⟨0, by omega, rfl, rfl, rfl, by simpa using HO2.out, HB2.out⟩
  case round =>
    obtain ⟨k, hk, rfl, rfl, rfl, ho, hbl⟩ := hrel
    have HO := Lib.hid ho
    have HBL := Lib.hid hbl
    have hsl := HSL.out
    rw [HSS.out] at hsl
    have HSL2 := Lib.hid hsl
    clear ho hbl hsl
    by_cases hk4 : k < 4
    · have h4 : k = 0 ∨ k = 1 ∨ k = 2 ∨ k = 3 := by omega
      rcases h4 with rfl | rfl | rfl | rfl
      ·
        have HOx := Lib.hid (ownsRow_ext HO.out ((Below.refl _ wr).alloc (Nat.le_refl _) (.cells #[.int .u8 ((s : Int) % 256)] 5)))
        have HCx := Lib.hid (cells_one (S := fun b => b = wr.heap.size) (g := wr.heap.size) (v := .int .u8 ((s : Int) % 256)) rfl (by simp) (Blk.new wr [.int .u8 ((s : Int) % 256)] 5 |>.cell 0 rfl))
        go_wp2_with (at_builtin; refine wpList_append_fits _ rfl (.tmp 21) (.tmp 27) 24 rfl w.heap.size 5 i0 1 Try.underlying24 HI0.out HS0.out w.heap.size (n + 0) (n + 4) (u8s (l ++ (crcFour s).take 0)) rfl HOx.out ⟨wr.heap.size, 0, none⟩ 1 1 [.int .u8 ((s : Int) % 256)] rfl rfl HCx.out.from_ (fun u hu => by simp at hu; subst hu; rfl) (by omega) ?_; intro w' hown' hgrow)
        go_wp2_with fail
        go_roundg (4 - (0 + 1))
        case measure => omega
        case rel =>
          refine ⟨0 + 1, by omega, rfl, by go_num, rfl, ?_, below_own (HBL.out.alloc HBL.out.size _) (by have := HBL.out.size; simp; omega) HOx.out (Nat.le_refl _) hgrow⟩
          have e : u8s (l ++ (crcFour s).take (0 + 1)) = u8s (l ++ (crcFour s).take 0) ++ [.int .u8 ((s : Int) % 256)] := by simp [u8s, crcFour]
          rw [e]
          exact hown'
      ·
        have HOx := Lib.hid (ownsRow_ext HO.out ((Below.refl _ wr).alloc (Nat.le_refl _) (.cells #[.int .u8 ((s : Int) / 256 % 256)] 5)))
        have HCx := Lib.hid (cells_one (S := fun b => b = wr.heap.size) (g := wr.heap.size) (v := .int .u8 ((s : Int) / 256 % 256)) rfl (by simp) (Blk.new wr [.int .u8 ((s : Int) / 256 % 256)] 5 |>.cell 0 rfl))
        go_wp2_with (at_builtin; refine wpList_append_fits _ rfl (.tmp 21) (.tmp 27) 24 rfl w.heap.size 5 i0 1 Try.underlying24 HI0.out HS0.out w.heap.size (n + 1) (n + 4) (u8s (l ++ (crcFour s).take 1)) rfl HOx.out ⟨wr.heap.size, 0, none⟩ 1 1 [.int .u8 ((s : Int) / 256 % 256)] rfl rfl HCx.out.from_ (fun u hu => by simp at hu; subst hu; rfl) (by omega) ?_; intro w' hown' hgrow)
        go_wp2_with fail
        go_roundg (4 - (1 + 1))
        case measure => omega
        case rel =>
          refine ⟨1 + 1, by omega, rfl, by go_num, rfl, ?_, below_own (HBL.out.alloc HBL.out.size _) (by have := HBL.out.size; simp; omega) HOx.out (Nat.le_refl _) hgrow⟩
          have e : u8s (l ++ (crcFour s).take (1 + 1)) = u8s (l ++ (crcFour s).take 1) ++ [.int .u8 ((s : Int) / 256 % 256)] := by simp [u8s, crcFour]
          rw [e]
          exact hown'
      ·
        have HOx := Lib.hid (ownsRow_ext HO.out ((Below.refl _ wr).alloc (Nat.le_refl _) (.cells #[.int .u8 ((s : Int) / 65536 % 256)] 5)))
        have HCx := Lib.hid (cells_one (S := fun b => b = wr.heap.size) (g := wr.heap.size) (v := .int .u8 ((s : Int) / 65536 % 256)) rfl (by simp) (Blk.new wr [.int .u8 ((s : Int) / 65536 % 256)] 5 |>.cell 0 rfl))
        go_wp2_with (at_builtin; refine wpList_append_fits _ rfl (.tmp 21) (.tmp 27) 24 rfl w.heap.size 5 i0 1 Try.underlying24 HI0.out HS0.out w.heap.size (n + 2) (n + 4) (u8s (l ++ (crcFour s).take 2)) rfl HOx.out ⟨wr.heap.size, 0, none⟩ 1 1 [.int .u8 ((s : Int) / 65536 % 256)] rfl rfl HCx.out.from_ (fun u hu => by simp at hu; subst hu; rfl) (by omega) ?_; intro w' hown' hgrow)
        go_wp2_with fail
        go_roundg (4 - (2 + 1))
        case measure => omega
        case rel =>
          refine ⟨2 + 1, by omega, rfl, by go_num, rfl, ?_, below_own (HBL.out.alloc HBL.out.size _) (by have := HBL.out.size; simp; omega) HOx.out (Nat.le_refl _) hgrow⟩
          have e : u8s (l ++ (crcFour s).take (2 + 1)) = u8s (l ++ (crcFour s).take 2) ++ [.int .u8 ((s : Int) / 65536 % 256)] := by simp [u8s, crcFour]
          rw [e]
          exact hown'
      ·
        have HOx := Lib.hid (ownsRow_ext HO.out ((Below.refl _ wr).alloc (Nat.le_refl _) (.cells #[.int .u8 ((s : Int) / 16777216 % 256)] 5)))
        have HCx := Lib.hid (cells_one (S := fun b => b = wr.heap.size) (g := wr.heap.size) (v := .int .u8 ((s : Int) / 16777216 % 256)) rfl (by simp) (Blk.new wr [.int .u8 ((s : Int) / 16777216 % 256)] 5 |>.cell 0 rfl))
        go_wp2_with (at_builtin; refine wpList_append_fits _ rfl (.tmp 21) (.tmp 27) 24 rfl w.heap.size 5 i0 1 Try.underlying24 HI0.out HS0.out w.heap.size (n + 3) (n + 4) (u8s (l ++ (crcFour s).take 3)) rfl HOx.out ⟨wr.heap.size, 0, none⟩ 1 1 [.int .u8 ((s : Int) / 16777216 % 256)] rfl rfl HCx.out.from_ (fun u hu => by simp at hu; subst hu; rfl) (by omega) ?_; intro w' hown' hgrow)
        go_wp2_with fail
        go_roundg (4 - (3 + 1))
        case measure => omega
        case rel =>
          refine ⟨3 + 1, by omega, rfl, by go_num, rfl, ?_, below_own (HBL.out.alloc HBL.out.size _) (by have := HBL.out.size; simp; omega) HOx.out (Nat.le_refl _) hgrow⟩
          have e : u8s (l ++ (crcFour s).take (3 + 1)) = u8s (l ++ (crcFour s).take 3) ++ [.int .u8 ((s : Int) / 16777216 % 256)] := by simp [u8s, crcFour]
          rw [e]
          exact hown'
    · obtain rfl : k = 4 := by omega
      clear hk4
      go_wp2
      go_ret
      refine ⟨_, rfl, ?_, HBL.out⟩
      have h := HO.out
      rw [show (crcFour s).take 4 = crcFour s from rfl] at h
      unfold crcLay
      rw [HSS.out]
      obtain ⟨a', c', e', _, _, _, h5⟩ := own_cells h
      cases e'
      exact h5
end Go.Proofs.Ythpdcbklaapngaa
