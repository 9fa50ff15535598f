/-
  HeaderFinds, its parts: spots; a clone as an own row; what is laid over bytes.
-/
import Derived.Test.YtmjmjjakhmeogaaLawHA
import Derived.Laws.CopyOwn
namespace Go.Dav
set_option linter.unusedVariables false
set_option linter.unusedSimpArgs false
open Go Go.RowKit
structure SpotV where
  at_ : Int
  byte_ : Int
  h : HeadD
  turned : Nat
def SpotV.cells (x : SpotV) : List Value := [.int .i64 x.at_, .int .i64 x.byte_, .int .u64 (x.h.gen : Int), .int .i64 x.h.at_, .int .u8 (x.turned : Int)]
structure SpotV.Fits (x : SpotV) : Prop where
  at_ : I64' x.at_
  byte_ : I64' x.byte_
  h : x.h.Fits
  turned : x.turned < 256
def SpotsAt (W : World) (a : Option Addr) (l : List SpotV) : Prop :=
  ∀ k d, l[k]? = some d → ∃ b o, a = some ⟨b, o, none⟩ ∧ b < W.heap.size ∧ (∀ j v, d.cells[j]? = some v → W.cell? ⟨b, o + k * 5 + j, none⟩ = some v) ∧ d.Fits
theorem SpotsAt.ext {W W' : World} {a : Option Addr} {l : List SpotV} (h : SpotsAt W a l) (hb : Below W.heap.size W W') : SpotsAt W' a l := fun k d hk => by
  obtain ⟨b, o, h1, h2, h3, h4⟩ := h k d hk
  exact ⟨b, o, h1, Nat.lt_of_lt_of_le h2 hb.size, fun j v hj => by rw [hb.cell (p := ⟨b, o + k * 5 + j, none⟩) h2]; exact h3 j v hj, h4⟩
/-- Bytes laid over others, at a place. -/
def overAt (l : List UInt8) (o : Nat) (b : List UInt8) : List UInt8 := l.take o ++ b ++ l.drop (o + b.length)
theorem overAt_len {l b : List UInt8} {o : Nat} (h : o + b.length ≤ l.length) : (overAt l o b).length = l.length := by
  unfold overAt; simp; omega
theorem splice_u8s {cur : List Value} {l b : List UInt8} {o : Nat} (h : cur.take l.length = u8s l) (hl : l.length ≤ cur.length) (ho : o + b.length ≤ l.length) : (splice cur o (u8s b)).take l.length = u8s (overAt l o b) := by
  have e1 : cur.take o = u8s (l.take o) := by
    rw [← u8s_take, ← h, List.take_take, Nat.min_eq_left (by omega)]
  have e2 : (cur.take l.length).drop (o + b.length) = u8s (l.drop (o + b.length)) := by rw [h]; simp [u8s]
  unfold splice overAt
  rw [u8s_append, u8s_append, u8s_len, e1, ← e2, ← List.append_assoc]
  apply List.ext_getElem?
  intro i
  rw [List.getElem?_take]
  by_cases hi : i < l.length
  · rw [if_pos hi]
    by_cases h1 : i < (u8s (l.take o) ++ u8s b).length
    · rw [List.getElem?_append_left h1, List.getElem?_append_left h1]
    · rw [List.getElem?_append_right (by omega), List.getElem?_append_right (by omega)]
      have h2 : (u8s (l.take o) ++ u8s b).length = o + b.length := by simp [u8s_len]; omega
      rw [h2, List.getElem?_drop, List.getElem?_drop, List.getElem?_take, if_pos (by omega)]
  · rw [if_neg hi, List.getElem?_eq_none]
    simp [u8s_len]; omega
theorem bits_xor_u8 {a b : Nat} (ha : a < 256) (hb : b < 256) : bits .xor .u8 (a : Int) (b : Int) = ((a ^^^ b : Nat) : Int) :=
  bits_xor_nat .u8 8 (by decide) (fun n h0 h1 => by rw [IntKind.wrap_u8]; omega) a b ha hb
theorem xor8_lt {a b : Nat} (ha : a < 256) (hb : b < 256) : a ^^^ b < 256 := Nat.xor_lt_two_pow (n := 8) ha hb
theorem BytesAt.take {W : World} {a : Option Addr} {len cap n : Nat} {l : List UInt8} (h : BytesAt W a len cap l) (hn : n ≤ len) : BytesAt W a n cap (l.take n) := by
  refine ⟨by rw [List.length_take, h.hlen]; omega, Nat.le_trans hn h.hcap, h.hmax, Nat.le_trans hn h.hfew, fun k x hk => ?_, h.hnil⟩
  rw [List.getElem?_take] at hk
  split at hk
  · exact h.hat k x hk
  · cases hk
end Go.Dav
namespace Go.Proofs.Ytmjmjjakhmeogaa
set_option linter.unusedVariables false
set_option linter.unusedSimpArgs false
open Go.RowKit Go.Dav
attribute [local go_sem] Gives ite_val ite_val_true

set_option maxHeartbeats 1000000 in
theorem Try_CloneOwn (a : Option Addr) (al ac : Nat) (x : List UInt8) (S : Nat → Prop) (w : World) (hx : BytesS w S a al ac x) :
    Calls Try.prog 46 #[.slice a al ac] w (GivesOwn 5 w x) := by
  cases a with
  | none =>
    have h0 := hx.at_.hnil rfl
    have h1 := hx.at_.hcap
    obtain rfl : al = 0 := by omega
    subst h0
    have hx0 : x = [] := List.length_eq_zero_iff.1 hx.at_.hlen
    subst hx0
    clear hx h1
    have knil := @Try_eqNil
    go_enter Try.func46, Try.ntmps46
    go_wp2
    go_ret
    exact ⟨_, rfl, World.ownsRow_nil _ _ _ _, (by repeat (first | (with_reducible exact Below.refl _ _) | (with_reducible exact Below.refl _ _) | (with_reducible refine Below.setCell ?_ (by first | omega | (simp; done) | (simp; omega)) _) | (with_reducible refine Below.alloc ?_ (by first | omega | (simp; done) | (simp; omega)) _) | (with_reducible refine Below.drew ?_) | (with_reducible refine below_drewN ?_ _)))⟩
  | some ad =>
    have hc := (hx.cells.ext ((Below.refl _ w).alloc (Nat.le_refl _) (.cells #[] 5)))
    have hf := hx.at_.hfew
    have hl := hx.at_.hlen
    have HX := Lib.hid hc
    clear hx hc
    have knil := @Try_eqNil
    go_enter Try.func46, Try.ntmps46
    have hown := World.ownsRow_made (e := 5) (size := 1) w #[] 0 (Nat.le_refl _) (by unfold maxLen; omega) rfl
    go_wp2_with (at_builtin; refine wpList_append_rowS rfl (.tmp 5) (.tmp 6) 22 rfl Try_elemU8 w.heap.size _ 0 [] rfl hown S (some ad) al ac (u8s x) rfl HX.out (u8s_one x) (fun h => by cases h) (by unfold maxLen; omega) (by omega) (by simp) ?_; intro v' w1 hown1 hgrow)
    rw [Nat.zero_add, List.nil_append] at hown1
    have hbel : Below w.heap.size w w1 := ((Below.refl _ w).alloc (Nat.le_refl _) _).grown hgrow (by simp) (fun k hk => (hown.lt k hk).1)
    have HO := Lib.hid hown1
    clear hown1 hgrow
    go_wp2
    go_ret
    exact ⟨_, rfl, by rw [hl]; exact HO.out, hbel⟩
end Go.Proofs.Ytmjmjjakhmeogaa
