/-
  Layer 10: bytes of slices held against one another: the reference's bytes, bytes.Equal, slices.Equal, slices.EqualFunc, walked; slices.Clone.
-/
import Derived.Test.YtafigbomcgncnaaFilA
import Derived.Laws.AppendOwnNone
import Derived.ArgAppend
import Derived.Deep.MidRow
import Derived.Laws.IdiomStrings
import Derived.Lib.BufferRead
namespace Go.Proofs.Ytafigbomcgncnaa
set_option linter.unusedVariables false
set_option linter.unusedSimpArgs false
open Go.RowKit Go.Dav
attribute [local go_sem] Gives ite_val ite_val_true

theorem conv_bytes {P : Program} {W : World} {a : Option Addr} {len cap : Nat} {l : List UInt8} (h : BytesAt W a len cap l) (src dst e : TypeId) (hs : P.underlying src = some (.slice e)) (he : P.underlying e = some (.int .u8)) (hd : P.underlying dst = some .string) :
    (convert src dst (.slice a len cap)).run P W = .ok (.string ⟨l.toArray⟩) W := by
  obtain ⟨h1, h2, h3, h4, h5, h6⟩ := h
  subst h1
  cases a with
  | none =>
    have h0 := h6 rfl
    have hl : l = [] := List.length_eq_zero_iff.1 (by omega)
    subst hl
    exact Lib.run_convert_nil_bytes W src dst e cap hs he hd
  | some a =>
    cases l with
    | nil =>
      refine run_convert_bytes_back W src dst e a cap [] hs he hd ?_
      intro j hj
      simp at hj
    | cons c l =>
      obtain ⟨b, o, e0, _, _⟩ := h5 0 c rfl
      cases e0
      refine run_convert_bytes_back W src dst e _ cap (c :: l) hs he hd ?_
      intro j hj
      obtain ⟨b', o', e1, _, hc⟩ := h5 j _ (List.getElem?_eq_getElem hj)
      cases e1
      rw [Addr.add_mid]
      exact hc

theorem list_beq (x y : List UInt8) : (x == y) = decide (x = y) := by
  rw [Bool.eq_iff_iff]; simp

theorem Try_refbytes (a b : Option Addr) (al ac bl bc : Nat) (x y : List UInt8) (w : World) (hx : BytesAt w a al ac x) (hy : BytesAt w b bl bc y) :
    Calls Try.prog 36 #[.slice a al ac, .slice b bl bc] w fun e w' => e = .returned (.bool (decide (x = y))) ∧ Below w.heap.size w w' := by
  have k1 := conv_bytes hx 22 9 5 Try.underlying22 Try.underlying5 Try.underlying9
  have k2 := conv_bytes hy 22 9 5 Try.underlying22 Try.underlying5 Try.underlying9
  clear hx hy
  go_enter Try.func36, Try.ntmps36
  go_wp2
  go_ret
  exact ⟨ret_bool (list_beq x y), (by repeat (first | (with_reducible exact Below.refl _ _) | (with_reducible exact Below.refl _ _) | (with_reducible refine Below.setCell ?_ (by first | omega | (simp; done) | (simp; omega)) _) | (with_reducible refine Below.alloc ?_ (by first | omega | (simp; done) | (simp; omega)) _) | (with_reducible refine Below.drew ?_) | (with_reducible refine below_drewN ?_ _)))⟩

theorem Try_bytesEqual (a b : Option Addr) (al ac bl bc : Nat) (x y : List UInt8) (w : World) (hx : BytesAt w a al ac x) (hy : BytesAt w b bl bc y) :
    Calls Try.prog 25 #[.slice a al ac, .slice b bl bc] w fun e w' => e = .returned (.bool (decide (x = y))) ∧ Below w.heap.size w w' := by
  have k1 := conv_bytes hx 22 9 5 Try.underlying22 Try.underlying5 Try.underlying9
  have k2 := conv_bytes hy 22 9 5 Try.underlying22 Try.underlying5 Try.underlying9
  clear hx hy
  go_enter Try.func25, Try.ntmps25
  go_wp2
  go_ret
  exact ⟨ret_bool (list_beq x y), (by repeat (first | (with_reducible exact Below.refl _ _) | (with_reducible exact Below.refl _ _) | (with_reducible refine Below.setCell ?_ (by first | omega | (simp; done) | (simp; omega)) _) | (with_reducible refine Below.alloc ?_ (by first | omega | (simp; done) | (simp; omega)) _) | (with_reducible refine Below.drew ?_) | (with_reducible refine below_drewN ?_ _)))⟩

def TryEqRel (w : World) (x y : List UInt8) (ix : Value) (wr : World) : Prop :=
  ∃ k : Nat, k ≤ x.length ∧ ix = .int .i64 k ∧ x.take k = y.take k ∧ Below w.heap.size w wr

theorem take_succ_eq {x y : List UInt8} {k : Nat} {c d : UInt8} (h : x.take k = y.take k) (hx : x[k]? = some c) (hy : y[k]? = some d) : x.take (k + 1) = y.take (k + 1) ↔ c = d := by
  rw [List.take_add_one, List.take_add_one, hx, hy, h]
  simp
theorem u8_ne {c d : UInt8} : ((c.toNat : Int) != (d.toNat : Int)) = !decide (c = d) := by
  rw [Bool.eq_iff_iff]
  simp only [bne_iff_ne, ne_eq, Bool.not_eq_true', decide_eq_false_iff_not]
  rw [Int.natCast_inj, UInt8.toNat_inj]

set_option maxRecDepth 8000 in
set_option maxHeartbeats 4000000 in
theorem Try_slicesEqual (a b : Option Addr) (al ac bl bc : Nat) (x y : List UInt8) (w : World) (hx : BytesAt w a al ac x) (hy : BytesAt w b bl bc y) :
    Calls Try.prog 14 #[.slice a al ac, .slice b bl bc] w fun e w' => e = .returned (.bool (decide (x = y))) ∧ Below w.heap.size w w' := by
  have e1 := hx.hlen
  have e2 := hy.hlen
  have f1 := hx.hfew
  have f2 := hy.hfew
  have g1 : (al : Int) ≤ 140737488355328 := by omega
  by_cases hl : al = bl
  · subst hl
    have H1 := Lib.hid e1; clear e1
    have H2 := Lib.hid e2; clear e2
    have HX := Lib.hid hx; clear hx
    have HY := Lib.hid hy; clear hy
    go_enter Try.func14, Try.ntmps14
    go_wp2_with fail
    go_loopw [13] (fun ix wr => TryEqRel w x y ix wr) (fun ix _ => al - (intOf ix).toNat)
    case atStart => exact ⟨0, Nat.zero_le _, rfl, by simp, Below.refl _ _⟩
    case round =>
      obtain ⟨k, hk, rfl, htk, hbel⟩ := hrel
      have hk2 : k ≤ al := by have := H1.out; omega
      have HT := Lib.hid htk; clear htk
      by_cases hlt : k < x.length
      · obtain ⟨c, hc⟩ : ∃ c, x[k]? = some c := ⟨_, List.getElem?_eq_getElem hlt⟩
        obtain ⟨d, hd⟩ : ∃ d, y[k]? = some d := ⟨_, List.getElem?_eq_getElem (by have := H1.out; have := H2.out; omega)⟩
        obtain ⟨b1, o1, rfl, hb1, q1⟩ := (HX.out.ext hbel).hat k c hc
        obtain ⟨b2, o2, rfl, hb2, q2⟩ := (HY.out.ext hbel).hat k d hd
        have HS := Lib.hid (take_succ_eq HT.out hc hd)
        have hkl : (k : Int) < (al : Int) := by have := H1.out; omega
        have hk0 : (0 : Int) ≤ (k : Int) := by omega
        have HLT := Lib.hid hlt
        have HE := Lib.hid (@u8_ne c d)
        clear hlt hc hd hk
        by_cases hcd : c = d
        · have hne : ((c.toNat : Int) != (d.toNat : Int)) = false := by rw [HE.out]; simp [hcd]
          have HCD := Lib.hid hcd; clear hcd
          go_wp2_with fail
          go_quiet (fail)
          go_wp2_with fail
          go_roundw
          case rel => exact ⟨k + 1, HLT.out, by go_num, HS.out.2 HCD.out, (by repeat (first | (with_reducible exact Below.refl _ _) | (with_reducible exact Below.refl _ _) | (with_reducible refine Below.setCell ?_ (by first | omega | (simp; done) | (simp; omega)) _) | (with_reducible refine Below.alloc ?_ (by first | omega | (simp; done) | (simp; omega)) _) | (with_reducible refine Below.drew ?_) | (with_reducible refine below_drewN ?_ _) | (with_reducible refine Below.trans ?_ (hbel.mono (by first | omega | (simp; done) | (simp; omega))))))⟩
          case measure => simp [intOf]; omega
        · have hne : ((c.toNat : Int) != (d.toNat : Int)) = true := by rw [HE.out]; simp [hcd]
          have HCD := Lib.hid hcd; clear hcd
          go_wp2_with fail
          go_quiet (fail)
          go_wp2_with fail
          go_ret
          exact ⟨ret_bool (by rw [eq_comm]; simp only [decide_eq_false_iff_not]; intro h; exact HCD.out (HS.out.1 (by rw [h]))), (by repeat (first | (with_reducible exact Below.refl _ _) | (with_reducible exact Below.refl _ _) | (with_reducible refine Below.setCell ?_ (by first | omega | (simp; done) | (simp; omega)) _) | (with_reducible refine Below.alloc ?_ (by first | omega | (simp; done) | (simp; omega)) _) | (with_reducible refine Below.drew ?_) | (with_reducible refine below_drewN ?_ _) | (with_reducible refine Below.trans ?_ (hbel.mono (by first | omega | (simp; done) | (simp; omega))))))⟩
      · have hkl : k = x.length := by omega
        have hk3 : ¬ ((k : Int) < (al : Int)) := by have := H1.out; omega
        have hval : x = y := by
          have h := HT.out
          rw [hkl, List.take_length, List.take_of_length_le (by have := H1.out; have := H2.out; omega)] at h
          exact h
        have HV := Lib.hid hval; clear hval hkl hk hlt
        go_wp2
        go_ret
        exact ⟨ret_bool (by simp [HV.out]), (by repeat (first | (with_reducible exact Below.refl _ _) | (with_reducible exact Below.refl _ _) | (with_reducible refine Below.setCell ?_ (by first | omega | (simp; done) | (simp; omega)) _) | (with_reducible refine Below.alloc ?_ (by first | omega | (simp; done) | (simp; omega)) _) | (with_reducible refine Below.drew ?_) | (with_reducible refine below_drewN ?_ _) | (with_reducible refine Below.trans ?_ (hbel.mono (by first | omega | (simp; done) | (simp; omega))))))⟩
  · have hne : ((al : Int) != (bl : Int)) = true := by simp; omega
    have hval : x ≠ y := by intro h; rw [h] at e1; omega
    have HV := Lib.hid hval; clear hval e1 e2 hx hy hl
    go_enter Try.func14, Try.ntmps14
    go_wp2
    go_ret
    exact ⟨ret_bool (by simp [HV.out]), (by repeat (first | (with_reducible exact Below.refl _ _) | (with_reducible exact Below.refl _ _) | (with_reducible refine Below.setCell ?_ (by first | omega | (simp; done) | (simp; omega)) _) | (with_reducible refine Below.alloc ?_ (by first | omega | (simp; done) | (simp; omega)) _) | (with_reducible refine Below.drew ?_) | (with_reducible refine below_drewN ?_ _)))⟩
end Go.Proofs.Ytafigbomcgncnaa
