/-
  The reference of layer 1: Is, Bytes, Starts, walked.
  The reference of layer 1: Begin, walked.
  The reference of layer 1: Points, Valid, walked.
  Layer 1: the program's way to the code point that begins a row, in plain, is the reference's.
  Layer 1: the program's size of a code point, walked.
  Layer 1: the program's forms and what a first byte says, walked.
-/
import Derived.Test.YtmcmknndhppljaaDoorVbA
import Derived.Test.YtmcmknndhppljaaDoorProg
import Derived.WalkKit
import Derived.Lib.Hide
import Derived.BigQuiet
import Derived.BigRegion
import Derived.Lib.ConvBytes
namespace Go.Dav
set_option linter.unusedVariables false
set_option linter.unusedSimpArgs false
open Go Go.RowKit
/-- Is a number a code point? -/
def isCp (c : Nat) : Bool := decide (c ≤ 1114111) && !(decide (55296 ≤ c) && decide (c ≤ 57343))
/-- A code point's bytes. -/
def cpBytes (c : Nat) : List UInt8 :=
  if c < 128 then [UInt8.ofNat c]
  else if c < 2048 then [UInt8.ofNat (192 + c / 64), UInt8.ofNat (128 + c % 64)]
  else if c < 65536 then [UInt8.ofNat (224 + c / 4096), UInt8.ofNat (128 + c / 64 % 64), UInt8.ofNat (128 + c % 64)]
  else [UInt8.ofNat (240 + c / 262144), UInt8.ofNat (128 + c / 4096 % 64), UInt8.ofNat (128 + c / 64 % 64), UInt8.ofNat (128 + c % 64)]
/-- Do bytes begin with others? -/
def startsB (b x : List UInt8) : Bool := decide (x.length ≤ b.length ∧ b.take x.length = x)
theorem cpBytes_len (c : Nat) : 1 ≤ (cpBytes c).length ∧ (cpBytes c).length ≤ 4 := by
  unfold cpBytes
  split
  · simp
  · split
    · simp
    · split <;> simp
theorem blk_bytes {W : World} {p n : Nat} {l : List UInt8} {t : TypeId} (h : Blk W p (u8s l) t) (hn : l.length = n) (hm : n ≤ 140737488355328) : BytesAt W (some ⟨p, 0, none⟩) n n l :=
  ⟨hn, Nat.le_refl _, by unfold maxLen; omega, hm, fun k x hk => ⟨p, 0, rfl, h.lt, by rw [Nat.zero_add]; exact h.cell k (u8s_get hk)⟩, fun e => by cases e⟩
/-- Bytes in a block of their own. -/
def OwnB (B : Nat) (l : List UInt8) (e : Ending) (w' : World) : Prop := ∃ p, B ≤ p ∧ e = .returned (.slice (some ⟨p, 0, none⟩) l.length l.length) ∧ BytesAt w' (some ⟨p, 0, none⟩) l.length l.length l
end Go.Dav
namespace Go.Proofs.YtmcmknndhppljaaDoor
set_option linter.unusedVariables false
set_option linter.unusedSimpArgs false
open Go.RowKit Go.Dav
attribute [local go_sem] Gives ite_val ite_val_true

theorem Tryd_rIs (c : Nat) (w : World) : Calls Tryd.prog 91 #[.int .i64 (c : Int)] w fun e w' => e = .returned (.bool (isCp c)) ∧ Below w.heap.size w w' := by
  obtain ⟨r, hr⟩ : ∃ r, isCp c = r := ⟨_, rfl⟩
  rw [hr]
  have HR := Lib.hid hr
  clear hr
  by_cases h1 : c ≤ 1114111
  · by_cases h2 : 55296 ≤ c
    · by_cases h3 : c ≤ 57343
      · have g1 : (c : Int) ≤ 1114111 := by omega
        have g2 : (55296 : Int) ≤ (c : Int) := by omega
        have g3 : (c : Int) ≤ 57343 := by omega
        have g0 : (0 : Int) ≤ (c : Int) := by omega
        have e : r = false := by rw [← HR.out]; simp [isCp, h2, h3]
        clear h1 h2 h3 HR
        subst e
        go_enter Tryd.func91, Tryd.ntmps91
        go_wp2
        go_ret
        exact ⟨rfl, (by repeat (first | (with_reducible exact Below.refl _ _) | (with_reducible exact Below.refl _ _) | (with_reducible refine Below.setCell ?_ (by first | omega | (simp; done) | (simp; omega)) _) | (with_reducible refine Below.alloc ?_ (by first | omega | (simp; done) | (simp; omega)) _) | (with_reducible refine Below.drew ?_) | (with_reducible refine below_drewN ?_ _)))⟩
      · have g1 : (c : Int) ≤ 1114111 := by omega
        have g2 : (55296 : Int) ≤ (c : Int) := by omega
        have g3 : ¬ (c : Int) ≤ 57343 := by omega
        have g0 : (0 : Int) ≤ (c : Int) := by omega
        have e : r = true := by rw [← HR.out]; simp [isCp, h1, h3]
        clear h1 h2 h3 HR
        subst e
        go_enter Tryd.func91, Tryd.ntmps91
        go_wp2
        go_ret
        exact ⟨rfl, (by repeat (first | (with_reducible exact Below.refl _ _) | (with_reducible exact Below.refl _ _) | (with_reducible refine Below.setCell ?_ (by first | omega | (simp; done) | (simp; omega)) _) | (with_reducible refine Below.alloc ?_ (by first | omega | (simp; done) | (simp; omega)) _) | (with_reducible refine Below.drew ?_) | (with_reducible refine below_drewN ?_ _)))⟩
    · have g1 : (c : Int) ≤ 1114111 := by omega
      have g2 : ¬ (55296 : Int) ≤ (c : Int) := by omega
      have g0 : (0 : Int) ≤ (c : Int) := by omega
      have e : r = true := by rw [← HR.out]; simp [isCp, h1, h2]
      clear h1 h2 HR
      subst e
      go_enter Tryd.func91, Tryd.ntmps91
      go_wp2
      go_ret
      exact ⟨rfl, (by repeat (first | (with_reducible exact Below.refl _ _) | (with_reducible exact Below.refl _ _) | (with_reducible refine Below.setCell ?_ (by first | omega | (simp; done) | (simp; omega)) _) | (with_reducible refine Below.alloc ?_ (by first | omega | (simp; done) | (simp; omega)) _) | (with_reducible refine Below.drew ?_) | (with_reducible refine below_drewN ?_ _)))⟩
  · have g1 : ¬ (c : Int) ≤ 1114111 := by omega
    have g0 : (0 : Int) ≤ (c : Int) := by omega
    have e : r = false := by rw [← HR.out]; simp [isCp, h1]
    clear h1 HR
    subst e
    go_enter Tryd.func91, Tryd.ntmps91
    go_wp2
    go_ret
    exact ⟨rfl, (by repeat (first | (with_reducible exact Below.refl _ _) | (with_reducible exact Below.refl _ _) | (with_reducible refine Below.setCell ?_ (by first | omega | (simp; done) | (simp; omega)) _) | (with_reducible refine Below.alloc ?_ (by first | omega | (simp; done) | (simp; omega)) _) | (with_reducible refine Below.drew ?_) | (with_reducible refine below_drewN ?_ _)))⟩

set_option maxRecDepth 8000 in
set_option maxHeartbeats 2000000 in
theorem Tryd_rBytes (c : Nat) (w : World) (hc : c ≤ 1114111) : Calls Tryd.prog 92 #[.int .i64 (c : Int)] w fun e w' => OwnB w.heap.size (cpBytes c) e w' ∧ Below w.heap.size w w' := by
  obtain ⟨l, hl⟩ : ∃ l, cpBytes c = l := ⟨_, rfl⟩
  rw [hl]
  have HL := Lib.hid hl
  have HC := Lib.hid hc
  clear hl hc
  by_cases h1 : c < 128
  · have g1 : (c : Int) < 128 := by omega
    have hl : l = [UInt8.ofNat c] := by rw [← HL.out]; unfold cpBytes; rw [if_pos h1]
    have HU := Lib.hid (show [Value.int .u8 (c : Int)] = u8s l by rw [hl]; simp only [u8s, List.map_cons, List.map_nil, UInt8.toNat_ofNat', List.cons.injEq, Value.int.injEq, and_true, true_and]; omega)
    have HN := Lib.hid (show l.length = 1 by rw [hl]; rfl)
    clear h1 HL hl
    go_enter Tryd.func92, Tryd.ntmps92
    go_wp2
    go_ret
    rw [HU.out]
    refine ⟨⟨_, Nat.le_refl _, by rw [HN.out]; rfl, blk_bytes (Blk.new w (u8s l) 5) rfl (by rw [HN.out]; omega)⟩, (by repeat (first | (with_reducible exact Below.refl _ _) | (with_reducible exact Below.refl _ _) | (with_reducible refine Below.setCell ?_ (by first | omega | (simp; done) | (simp; omega)) _) | (with_reducible refine Below.alloc ?_ (by first | omega | (simp; done) | (simp; omega)) _) | (with_reducible refine Below.drew ?_) | (with_reducible refine below_drewN ?_ _)))⟩
  · have g1 : ¬ (c : Int) < 128 := by omega
    by_cases h2 : c < 2048
    · have g2 : (c : Int) < 2048 := by omega
      have hl : l = [UInt8.ofNat (192 + c / 64), UInt8.ofNat (128 + c % 64)] := by rw [← HL.out]; unfold cpBytes; rw [if_neg h1, if_pos h2]
      have HU := Lib.hid (show [Value.int .u8 (192 + (c : Int) / 64), Value.int .u8 (128 + (c : Int) % 64)] = u8s l by rw [hl]; simp only [u8s, List.map_cons, List.map_nil, UInt8.toNat_ofNat', List.cons.injEq, Value.int.injEq, and_true, true_and]; omega)
      have HN := Lib.hid (show l.length = 2 by rw [hl]; rfl)
      clear h1 h2 HL hl
      go_enter Tryd.func92, Tryd.ntmps92
      go_wp2
      go_ret
      rw [HU.out]
      refine ⟨⟨_, Nat.le_refl _, by rw [HN.out]; rfl, blk_bytes (Blk.new w (u8s l) 5) rfl (by rw [HN.out]; omega)⟩, (by repeat (first | (with_reducible exact Below.refl _ _) | (with_reducible exact Below.refl _ _) | (with_reducible refine Below.setCell ?_ (by first | omega | (simp; done) | (simp; omega)) _) | (with_reducible refine Below.alloc ?_ (by first | omega | (simp; done) | (simp; omega)) _) | (with_reducible refine Below.drew ?_) | (with_reducible refine below_drewN ?_ _)))⟩
    · have g2 : ¬ (c : Int) < 2048 := by omega
      by_cases h3 : c < 65536
      · have g3 : (c : Int) < 65536 := by omega
        have hl : l = [UInt8.ofNat (224 + c / 4096), UInt8.ofNat (128 + c / 64 % 64), UInt8.ofNat (128 + c % 64)] := by rw [← HL.out]; unfold cpBytes; rw [if_neg h1, if_neg h2, if_pos h3]
        have HU := Lib.hid (show [Value.int .u8 (224 + (c : Int) / 4096), Value.int .u8 (128 + (c : Int) / 64 % 64), Value.int .u8 (128 + (c : Int) % 64)] = u8s l by rw [hl]; simp only [u8s, List.map_cons, List.map_nil, UInt8.toNat_ofNat', List.cons.injEq, Value.int.injEq, and_true, true_and]; omega)
        have HN := Lib.hid (show l.length = 3 by rw [hl]; rfl)
        clear h1 h2 h3 HL hl
        go_enter Tryd.func92, Tryd.ntmps92
        go_wp2
        go_ret
        rw [HU.out]
        refine ⟨⟨_, Nat.le_refl _, by rw [HN.out]; rfl, blk_bytes (Blk.new w (u8s l) 5) rfl (by rw [HN.out]; omega)⟩, (by repeat (first | (with_reducible exact Below.refl _ _) | (with_reducible exact Below.refl _ _) | (with_reducible refine Below.setCell ?_ (by first | omega | (simp; done) | (simp; omega)) _) | (with_reducible refine Below.alloc ?_ (by first | omega | (simp; done) | (simp; omega)) _) | (with_reducible refine Below.drew ?_) | (with_reducible refine below_drewN ?_ _)))⟩
      · have g3 : ¬ (c : Int) < 65536 := by omega
        have hl : l = [UInt8.ofNat (240 + c / 262144), UInt8.ofNat (128 + c / 4096 % 64), UInt8.ofNat (128 + c / 64 % 64), UInt8.ofNat (128 + c % 64)] := by rw [← HL.out]; unfold cpBytes; rw [if_neg h1, if_neg h2, if_neg h3]
        have HU := Lib.hid (show [Value.int .u8 (240 + (c : Int) / 262144), Value.int .u8 (128 + (c : Int) / 4096 % 64), Value.int .u8 (128 + (c : Int) / 64 % 64), Value.int .u8 (128 + (c : Int) % 64)] = u8s l by rw [hl]; have := HC.out; simp only [u8s, List.map_cons, List.map_nil, UInt8.toNat_ofNat', List.cons.injEq, Value.int.injEq, and_true, true_and]; omega)
        have HN := Lib.hid (show l.length = 4 by rw [hl]; rfl)
        have hc := HC.out
        clear h1 h2 h3 HL hl
        go_enter Tryd.func92, Tryd.ntmps92
        go_wp2
        go_ret
        rw [HU.out]
        refine ⟨⟨_, Nat.le_refl _, by rw [HN.out]; rfl, blk_bytes (Blk.new w (u8s l) 5) rfl (by rw [HN.out]; omega)⟩, (by repeat (first | (with_reducible exact Below.refl _ _) | (with_reducible exact Below.refl _ _) | (with_reducible refine Below.setCell ?_ (by first | omega | (simp; done) | (simp; omega)) _) | (with_reducible refine Below.alloc ?_ (by first | omega | (simp; done) | (simp; omega)) _) | (with_reducible refine Below.drew ?_) | (with_reducible refine below_drewN ?_ _)))⟩

theorem startsB_zero (b : List UInt8) (x : List UInt8) : startsB b x = true ↔ x.length ≤ b.length ∧ ∀ i, i < x.length → b[i]? = x[i]? := by
  unfold startsB
  rw [decide_eq_true_eq]
  refine ⟨fun ⟨h1, h2⟩ => ⟨h1, fun i hi => ?_⟩, fun ⟨h1, h2⟩ => ⟨h1, ?_⟩⟩
  · conv => rhs; rw [← h2]
    rw [List.getElem?_take, if_pos hi]
  · apply List.ext_getElem?
    intro i
    rw [List.getElem?_take]
    by_cases hi : i < x.length
    · rw [if_pos hi]; exact h2 i hi
    · rw [if_neg hi, List.getElem?_eq_none (by omega)]

set_option maxRecDepth 8000 in
set_option maxHeartbeats 2000000 in
theorem Tryd_rStarts (ba xa : Option Addr) (bl bc xl xc : Nat) (b x : List UInt8) (w : World) (hb : BytesAt w ba bl bc b) (hx : BytesAt w xa xl xc x) :
    Calls Tryd.prog 93 #[.slice ba bl bc, .slice xa xl xc] w fun e w' => e = .returned (.bool (startsB b x)) ∧ Below w.heap.size w w' := by
  have HB := Lib.hid hb
  have HX := Lib.hid hx
  obtain ⟨r, hr⟩ : ∃ r, startsB b x = r := ⟨_, rfl⟩
  rw [hr]
  have hbl := hb.hlen
  have hxl := hx.hlen
  have hbf := hb.hfew
  have hxf := hx.hfew
  by_cases h1 : bl < xl
  · have g1 : (bl : Int) < (xl : Int) := by omega
    have e : r = false := by rw [← hr]; unfold startsB; rw [decide_eq_false_iff_not]; omega
    clear hr hb hx hbl hxl hbf hxf h1
    subst e
    go_enter Tryd.func93, Tryd.ntmps93
    go_wp2
    go_ret
    exact ⟨rfl, (by repeat (first | (with_reducible exact Below.refl _ _) | (with_reducible exact Below.refl _ _) | (with_reducible refine Below.setCell ?_ (by first | omega | (simp; done) | (simp; omega)) _) | (with_reducible refine Below.alloc ?_ (by first | omega | (simp; done) | (simp; omega)) _) | (with_reducible refine Below.drew ?_) | (with_reducible refine below_drewN ?_ _)))⟩
  · have g1 : ¬ (bl : Int) < (xl : Int) := by omega
    have HR := Lib.hid hr
    clear hr hb hx
    go_enter Tryd.func93, Tryd.ntmps93
    go_wp2_with fail
    go_loopw [5] (fun ix wr => ∃ i : Nat, i ≤ xl ∧ ix = .int .i64 (i : Int) ∧ Below w.heap.size w wr ∧ ∀ j, j < i → b[j]? = x[j]?) (fun ix _ => xl - (intOf ix).toNat)
    case atStart => exact ⟨0, Nat.zero_le _, by go_num, Below.refl _ _, fun j h => by omega⟩
    case round =>
      obtain ⟨i, hi, rfl, hbel, hall⟩ := hrel
      have HBE := Lib.hid hbel
      clear hbel
      by_cases hlt : i < xl
      · obtain ⟨u, hu⟩ : ∃ u, b[i]? = some u := ⟨_, List.getElem?_eq_getElem (by omega)⟩
        obtain ⟨v, hv⟩ : ∃ v, x[i]? = some v := ⟨_, List.getElem?_eq_getElem (by omega)⟩
        obtain ⟨bb, bo, rfl, hbb, hbcell⟩ := (HB.out.ext HBE.out).hat i u hu
        obtain ⟨xb, xo, rfl, hxb, hxcell⟩ := (HX.out.ext HBE.out).hat i v hv
        have g2 : (i : Int) < (xl : Int) := by omega
        have g3 : (i : Int) < (bl : Int) := by omega
        have HI := Lib.hid (show i < xl from hlt)
        have HALL := Lib.hid hall
        have HUV := Lib.hid (And.intro hu hv)
        by_cases huv : u = v
        · subst huv
          clear hall hlt hi hu hv
          go_wp2_with fail
          go_quiet (fail)
          go_wp2_with fail
          go_roundw
          case rel => exact ⟨i + 1, HI.out, by go_num, by have h := HBE.out; exact (by repeat (first | (with_reducible exact Below.refl _ _) | (with_reducible exact Below.refl _ _) | (with_reducible refine Below.setCell ?_ (by first | omega | (simp; done) | (simp; omega)) _) | (with_reducible refine Below.alloc ?_ (by first | omega | (simp; done) | (simp; omega)) _) | (with_reducible refine Below.drew ?_) | (with_reducible refine below_drewN ?_ _) | (with_reducible refine Below.trans ?_ (h.mono (by first | omega | (simp; done) | (simp; omega)))))), fun j hj => by
            by_cases hji : j < i
            · exact HALL.out j hji
            · have : j = i := by omega
              rw [this, HUV.out.1, HUV.out.2]⟩
          case measure => have := HI.out; simp [intOf]; omega
        · have hne : ((u.toNat : Int) == (v.toNat : Int)) = false := by
            rw [beq_eq_false_iff_ne]; intro e; apply huv; exact UInt8.toNat_inj.1 (by omega)
          have e : r = false := by
            cases hrr : r with
            | false => rfl
            | true =>
              have h := ((startsB_zero b x).1 (HR.out.trans hrr)).2 i (by omega)
              rw [hu, hv] at h
              exact absurd (Option.some.inj h) huv
          clear hall hlt hi hu hv huv HR
          subst e
          go_wp2_with fail
          go_quiet (fail)
          go_wp2
          go_ret
          exact ⟨rfl, by have h := HBE.out; exact (by repeat (first | (with_reducible exact Below.refl _ _) | (with_reducible exact Below.refl _ _) | (with_reducible refine Below.setCell ?_ (by first | omega | (simp; done) | (simp; omega)) _) | (with_reducible refine Below.alloc ?_ (by first | omega | (simp; done) | (simp; omega)) _) | (with_reducible refine Below.drew ?_) | (with_reducible refine below_drewN ?_ _) | (with_reducible refine Below.trans ?_ (h.mono (by first | omega | (simp; done) | (simp; omega))))))⟩
      · have g2 : ¬ (i : Int) < (xl : Int) := by omega
        have e : r = true := by
          rw [← HR.out]; exact (startsB_zero b x).2 ⟨by omega, fun j hj => hall j (by omega)⟩
        clear hall hlt HR hi
        subst e
        go_wp2
        go_ret
        exact ⟨rfl, by have h := HBE.out; exact (by repeat (first | (with_reducible exact Below.refl _ _) | (with_reducible exact Below.refl _ _) | (with_reducible refine Below.setCell ?_ (by first | omega | (simp; done) | (simp; omega)) _) | (with_reducible refine Below.alloc ?_ (by first | omega | (simp; done) | (simp; omega)) _) | (with_reducible refine Below.drew ?_) | (with_reducible refine below_drewN ?_ _) | (with_reducible refine Below.trans ?_ (h.mono (by first | omega | (simp; done) | (simp; omega))))))⟩
end Go.Proofs.YtmcmknndhppljaaDoor

namespace Go.Dav
set_option linter.unusedVariables false
set_option linter.unusedSimpArgs false
open Go Go.RowKit
/-- What a number is made of, of the first byte. -/
def cpFirst (b : List UInt8) (n : Nat) : Nat :=
  match b with
  | [] => 0
  | x :: _ => if n = 1 then x.toNat else if n = 2 then x.toNat % 32 else if n = 3 then x.toNat % 16 else x.toNat % 8
/-- .. and of the next ones, up to the i-th. -/
def cpTo (b : List UInt8) (n i : Nat) : Nat := ((b.take i).drop 1).foldl (fun c x => c * 64 + x.toNat % 64) (cpFirst b n)
def cpAt (b : List UInt8) (n : Nat) : Nat := cpTo b n n
theorem cpTo_one (b : List UInt8) (n : Nat) : cpTo b n 1 = cpFirst b n := by
  unfold cpTo; cases b <;> simp
theorem cpTo_succ {b : List UInt8} {n i : Nat} {x : UInt8} (hi : 1 ≤ i) (hx : b[i]? = some x) : cpTo b n (i + 1) = cpTo b n i * 64 + x.toNat % 64 := by
  unfold cpTo
  have hl := (List.getElem?_eq_some_iff.1 hx).1
  have e : b.take (i + 1) = b.take i ++ [x] := by rw [List.take_add_one, hx]; rfl
  rw [e, List.drop_append_of_le_length (by rw [List.length_take]; omega), List.foldl_append]
  rfl
theorem cpFirst_le (b : List UInt8) (n : Nat) : cpFirst b n < 256 ∧ (2 ≤ n → cpFirst b n < 32) ∧ (3 ≤ n → cpFirst b n < 16) ∧ (4 ≤ n → cpFirst b n < 8) := by
  unfold cpFirst
  cases b with
  | nil => simp
  | cons x xs =>
    have := x.toNat_lt
    dsimp only
    by_cases h1 : n = 1
    · rw [if_pos h1]; omega
    · rw [if_neg h1]
      by_cases h2 : n = 2
      · rw [if_pos h2]; omega
      · rw [if_neg h2]
        by_cases h3 : n = 3
        · rw [if_pos h3]; omega
        · rw [if_neg h3]; omega
theorem cpTo_le (b : List UInt8) (n : Nat) : ∀ i, 1 ≤ i → i ≤ 4 → i ≤ b.length → cpTo b n i < 256 * 64 ^ (i - 1)
  | 0, h, _, _ => by omega
  | 1, _, _, _ => by rw [cpTo_one]; have := (cpFirst_le b n).1; simpa using this
  | i + 2, _, h4, hl => by
    have ih := cpTo_le b n (i + 1) (by omega) (by omega) (by omega)
    obtain ⟨x, hx⟩ : ∃ x, b[i + 1]? = some x := ⟨_, List.getElem?_eq_getElem (by omega)⟩
    rw [cpTo_succ (by omega) hx]
    rw [show i + 1 - 1 = i by omega] at ih
    rw [show i + 2 - 1 = i + 1 by omega, Nat.pow_succ]
    omega
theorem cpTo_lt (b : List UInt8) (n i : Nat) (h1 : 1 ≤ i) (h4 : i ≤ 4) (hl : i ≤ b.length) : cpTo b n i < 67108864 := by
  have h := cpTo_le b n i h1 h4 hl
  have : (256 * 64 ^ (i - 1) : Nat) ≤ 67108864 := by
    rcases (by omega : i = 1 ∨ i = 2 ∨ i = 3 ∨ i = 4) with rfl | rfl | rfl | rfl <;> decide
  omega
/-- Do the first n bytes make a code point whose bytes they are? -/
def beginOk (b : List UInt8) (n : Nat) : Bool := decide (n ≤ b.length) && (isCp (cpAt b n) && decide (cpBytes (cpAt b n) = b.take n))
/-- The code point that begins a row, and its size. -/
def beginOf (b : List UInt8) : Nat × Nat :=
  if beginOk b 1 = true then (cpAt b 1, 1) else if beginOk b 2 = true then (cpAt b 2, 2) else if beginOk b 3 = true then (cpAt b 3, 3) else if beginOk b 4 = true then (cpAt b 4, 4) else (0, 0)
theorem beginOf_ok {b : List UInt8} {n : Nat} (h1 : 1 ≤ n) (h4 : n ≤ 4) (h : beginOk b n = true) (hb : ∀ m, 1 ≤ m → m < n → beginOk b m = false) : beginOf b = (cpAt b n, n) := by
  unfold beginOf
  rcases (by omega : n = 1 ∨ n = 2 ∨ n = 3 ∨ n = 4) with rfl | rfl | rfl | rfl
  · rw [if_pos h]
  · rw [if_neg (by rw [hb 1 (by omega) (by omega)]; decide), if_pos h]
  · rw [if_neg (by rw [hb 1 (by omega) (by omega)]; decide), if_neg (by rw [hb 2 (by omega) (by omega)]; decide), if_pos h]
  · rw [if_neg (by rw [hb 1 (by omega) (by omega)]; decide), if_neg (by rw [hb 2 (by omega) (by omega)]; decide), if_neg (by rw [hb 3 (by omega) (by omega)]; decide), if_pos h]
theorem beginOf_no {b : List UInt8} (hb : ∀ m, 1 ≤ m → m ≤ 4 → beginOk b m = false) : beginOf b = (0, 0) := by
  unfold beginOf
  rw [if_neg (by rw [hb 1 (by omega) (by omega)]; decide), if_neg (by rw [hb 2 (by omega) (by omega)]; decide), if_neg (by rw [hb 3 (by omega) (by omega)]; decide), if_neg (by rw [hb 4 (by omega) (by omega)]; decide)]
theorem startsB_take {b x : List UInt8} {n : Nat} (hn : n ≤ b.length) (hx : x.length = n) : startsB b x = decide (x = b.take n) := by
  unfold startsB
  rw [hx]
  by_cases h : x = b.take n
  · simp [h, hn]
  · have h' : ¬ b.take n = x := fun e => h e.symm
    simp [h, h', hn]
theorem beginOk_cases {b : List UInt8} {n : Nat} (hn : n ≤ b.length) : beginOk b n = (isCp (cpAt b n) && (decide ((cpBytes (cpAt b n)).length = n) && startsB b (cpBytes (cpAt b n)))) := by
  unfold beginOk
  rw [decide_eq_true hn, Bool.true_and]
  congr 1
  by_cases h : (cpBytes (cpAt b n)).length = n
  · rw [startsB_take hn h]; simp [h]
  · have : ¬ cpBytes (cpAt b n) = b.take n := fun e => h (by rw [e, List.length_take]; omega)
    simp [h, this]
end Go.Dav
namespace Go.Proofs.YtmcmknndhppljaaDoor
set_option linter.unusedVariables false
set_option linter.unusedSimpArgs false
open Go.RowKit Go.Dav
attribute [local go_sem] Gives ite_val ite_val_true

set_option maxRecDepth 8000 in
set_option maxHeartbeats 4000000 in
theorem Tryd_rBegin (ba : Option Addr) (bl bc : Nat) (b : List UInt8) (w : World) (hb : BytesAt w ba bl bc b) (h1 : 1 ≤ bl) :
    Calls Tryd.prog 75 #[.slice ba bl bc] w fun e w' => e = .returned (.tuple #[.int .i64 ((beginOf b).1 : Int), .int .i64 ((beginOf b).2 : Int)]) ∧ Below w.heap.size w w' := by
  obtain ⟨r, hr⟩ : ∃ r, beginOf b = r := ⟨_, rfl⟩
  rw [hr]
  have HR := Lib.hid hr
  have HB := Lib.hid hb
  have HL := Lib.hid hb.hlen
  have hbf := hb.hfew
  clear hr hb
  go_enter Tryd.func75, Tryd.ntmps75
  go_wp2_with fail
  go_loopw [4] (fun ix wr => ∃ n : Nat, 1 ≤ n ∧ n ≤ 5 ∧ ix = .int .i64 (n : Int) ∧ Below w.heap.size w wr ∧ ∀ m, 1 ≤ m → m < n → beginOk b m = false) (fun ix _ => 5 - (intOf ix).toNat)
  case atStart => exact ⟨1, by omega, by omega, by go_num, Below.refl _ _, fun m h h2 => by omega⟩
  case round =>
    obtain ⟨n, hn1, hn5, rfl, hbel, hno⟩ := hrel
    have HBE := Lib.hid hbel
    have HNO := Lib.hid hno
    clear hbel hno
    by_cases hn4 : n ≤ 4
    · by_cases hnl : n ≤ bl
      · obtain ⟨x0, hx0⟩ : ∃ x0, b[0]? = some x0 := ⟨_, List.getElem?_eq_getElem (by have := HL.out; omega)⟩
        obtain ⟨bb, bo, rfl, hbb, hbcell⟩ := (HB.out.ext HBE.out).hat 0 x0 hx0
        rw [Nat.add_zero] at hbcell
        have g1 : (n : Int) ≤ 4 := by omega
        have g2 : (n : Int) ≤ (bl : Int) := by omega
        have HX0 := Lib.hid hx0
        have hx8 := x0.toNat_lt
        have hbcons : ∃ xs, b = x0 :: xs := by
          cases b with
          | nil => simp at hx0
          | cons y ys => simp at hx0; exact ⟨ys, by rw [hx0]⟩
        have HBC := Lib.hid hbcons
        have HNL := Lib.hid hnl
        clear hx0 hbcons
        have hbl0 : 0 < bl := h1
        rcases (by omega : n = 1 ∨ n = 2 ∨ n = 3 ∨ n = 4) with rfl | rfl | rfl | rfl
        · have HCF := Lib.hid (show ((cpFirst b 1 : Nat) : Int) = (x0.toNat : Int) by obtain ⟨xs, e⟩ := HBC.out; rw [e]; rfl)
          clear hn1 hn5 hn4 hnl
          go_wp2_with fail
          go_loopw [5, 6] (fun cx ix wi => ∃ i : Nat, 1 ≤ i ∧ i ≤ 1 ∧ ix = .int .i64 (i : Int) ∧ cx = .int .i64 ((cpTo b 1 i : Nat) : Int) ∧ Below w.heap.size w wi) (fun _ ix _ => 1 - (intOf ix).toNat)
          case atStart => exact ⟨1, by omega, by omega, by go_num, by rw [cpTo_one, HCF.out], by have h := HBE.out; have hs := h.size; exact (by repeat (first | (with_reducible exact Below.refl _ _) | (with_reducible exact Below.refl _ _) | (with_reducible refine Below.setCell ?_ (by first | omega | (simp; done) | (simp; omega)) _) | (with_reducible refine Below.alloc ?_ (by first | omega | (simp; done) | (simp; omega)) _) | (with_reducible refine Below.drew ?_) | (with_reducible refine below_drewN ?_ _) | (with_reducible refine Below.trans ?_ (h.mono (by first | omega | (simp; done) | (simp; omega))))))⟩
          case round =>
            obtain ⟨i, hi1, hiN, rfl, rfl, hbi⟩ := hrel
            have HBI := Lib.hid hbi
            clear hbi
            by_cases hin : i < 1
            · obtain ⟨x, hx⟩ : ∃ x, b[i]? = some x := ⟨_, List.getElem?_eq_getElem (by have := HL.out; have := HNL.out; omega)⟩
              obtain ⟨bb2, bo2, e2, hbb2, hbcell2⟩ := (HB.out.ext HBI.out).hat i x hx
              cases e2
              have hlt := cpTo_lt b 1 i hi1 (by omega) (by have := HL.out; have := HNL.out; omega)
              have hs := cpTo_succ (n := 1) hi1 hx
              obtain ⟨c, hc⟩ : ∃ c, cpTo b 1 i = c := ⟨_, rfl⟩
              rw [hc] at hlt hs ⊢
              have hx8' := x.toNat_lt
              have HS := Lib.hid hs
              have HIN := Lib.hid hin
              have k1 : (i : Int) < 1 := by omega
              have k2 : (i : Int) < (bl : Int) := by have := HNL.out; omega
              clear hx hs hc hin hiN
              go_wp2_with fail
              go_roundw
              case rel => exact ⟨i + 1, by omega, HIN.out, by go_num, by rw [HS.out]; simp, by have h := HBI.out; exact (by repeat (first | (with_reducible exact Below.refl _ _) | (with_reducible exact Below.refl _ _) | (with_reducible refine Below.setCell ?_ (by first | omega | (simp; done) | (simp; omega)) _) | (with_reducible refine Below.alloc ?_ (by first | omega | (simp; done) | (simp; omega)) _) | (with_reducible refine Below.drew ?_) | (with_reducible refine below_drewN ?_ _) | (with_reducible refine Below.trans ?_ (h.mono (by first | omega | (simp; done) | (simp; omega))))))⟩
              case measure => have := HIN.out; simp [intOf]; omega
            · obtain rfl : i = 1 := by omega
              have hlt := cpTo_lt b 1 1 (by omega) (by omega) (by have := HL.out; have := HNL.out; omega)
              obtain ⟨c, hc⟩ : ∃ c, cpAt b 1 = c := ⟨_, rfl⟩
              have hc' : cpTo b 1 1 = c := hc
              rw [hc'] at hlt ⊢
              have HC := Lib.hid hc
              clear hin hi1 hiN hc hc'
              go_wp2_with fail
              refine (Tryd_rIs c wr).mono ?_; rintro e w2 ⟨rfl, hb2⟩
              have HB2 := Lib.hid (HBI.out.trans (hb2.mono HBI.out.size))
              have HOK := Lib.hid (beginOk_cases (b := b) (n := 1) (by have := HL.out; have := HNL.out; omega))
              clear hb2
              cases hic : isCp c with
              | false =>
                have HNOK := Lib.hid (show beginOk b 1 = false by rw [HOK.out, HC.out, hic]; rfl)
                clear hic
                go_wp2_with fail
                go_roundw
                case rel => exact ⟨1 + 1, by omega, by omega, by go_num, HB2.out, fun m hm1 hm2 => by
                  by_cases hmn : m < 1
                  · exact HNO.out m hm1 hmn
                  · obtain rfl : m = 1 := by omega
                    exact HNOK.out⟩
                case measure => simp [intOf]
              | true =>
                have hcl : c ≤ 1114111 := by
                  unfold isCp at hic
                  rw [Bool.and_eq_true, decide_eq_true_eq] at hic
                  exact hic.1
                have HIC := Lib.hid hic
                clear hic
                go_wp2_with fail
                refine (Tryd_rBytes c w2 hcl).mono ?_; rintro e w3 ⟨⟨p, hp, rfl, hob⟩, hb3⟩
                obtain ⟨ol, hol⟩ : ∃ l, cpBytes c = l := ⟨_, rfl⟩
                rw [hol] at hob ⊢
                obtain ⟨on, hon⟩ : ∃ n, ol.length = n := ⟨_, rfl⟩
                rw [hon] at hob ⊢
                have HOB := Lib.hid hob
                have HB3 := Lib.hid (HB2.out.trans (hb3.mono HB2.out.size))
                have HOL := Lib.hid hol
                have HON := Lib.hid hon
                clear hob hb3 hol hon hcl
                by_cases hn : on = 1
                · subst hn
                  go_wp2_with fail
                  have hSt := Tryd_rStarts (some ⟨bb, bo, none⟩) (some ⟨p, 0, none⟩) bl bc 1 1 b ol w3 (HB.out.ext HB3.out) HOB.out
                  with_reducible refine hSt.mono ?_
                  rintro e w4 ⟨rfl, hb4⟩
                  have HB4 := Lib.hid (HB3.out.trans (hb4.mono HB3.out.size))
                  clear hb4
                  cases hst : startsB b ol with
                  | true =>
                    have e : r = (c, 1) := by
                      have h := HOK.out
                      rw [HC.out, HIC.out, HOL.out, HON.out, hst, decide_eq_true rfl] at h
                      rw [← HR.out, ← HC.out]
                      exact beginOf_ok (by omega) (by omega) h HNO.out
                    clear hst HR
                    subst e
                    go_wp2
                    go_ret2
                    exact ⟨rfl, HB4.out⟩
                  | false =>
                    have HNOK := Lib.hid (show beginOk b 1 = false by rw [HOK.out, HC.out, HIC.out, HOL.out, hst]; simp)
                    clear hst
                    go_wp2_with fail
                    go_roundw
                    case rel => exact ⟨1 + 1, by omega, by omega, by go_num, HB4.out, fun m hm1 hm2 => by
                      by_cases hmn : m < 1
                      · exact HNO.out m hm1 hmn
                      · obtain rfl : m = 1 := by omega
                        exact HNOK.out⟩
                    case measure => simp [intOf]
                · have d1 : ((on : Int) == 1) = false := by rw [beq_eq_false_iff_ne]; omega
                  have HNOK := Lib.hid (show beginOk b 1 = false by rw [HOK.out, HC.out, HIC.out, HOL.out, HON.out, decide_eq_false hn]; rfl)
                  clear hn
                  go_wp2_with fail
                  go_roundw
                  case rel => exact ⟨1 + 1, by omega, by omega, by go_num, HB3.out, fun m hm1 hm2 => by
                    by_cases hmn : m < 1
                    · exact HNO.out m hm1 hmn
                    · obtain rfl : m = 1 := by omega
                      exact HNOK.out⟩
                  case measure => simp [intOf]
        ·
          have HCF := Lib.hid (show ((cpFirst b 2 : Nat) : Int) = (x0.toNat : Int) % 32 by obtain ⟨xs, e⟩ := HBC.out; rw [e]; rfl)
          clear hn1 hn5 hn4 hnl
          go_wp2_with fail
          go_region
          go_wp2_with fail
          go_loopw [5, 6] (fun cx ix wi => ∃ i : Nat, 1 ≤ i ∧ i ≤ 2 ∧ ix = .int .i64 (i : Int) ∧ cx = .int .i64 ((cpTo b 2 i : Nat) : Int) ∧ Below w.heap.size w wi) (fun _ ix _ => 2 - (intOf ix).toNat)
          case atStart => exact ⟨1, by omega, by omega, by go_num, by rw [cpTo_one, HCF.out], by have h := HBE.out; have hs := h.size; exact (by repeat (first | (with_reducible exact Below.refl _ _) | (with_reducible exact Below.refl _ _) | (with_reducible refine Below.setCell ?_ (by first | omega | (simp; done) | (simp; omega)) _) | (with_reducible refine Below.alloc ?_ (by first | omega | (simp; done) | (simp; omega)) _) | (with_reducible refine Below.drew ?_) | (with_reducible refine below_drewN ?_ _) | (with_reducible refine Below.trans ?_ (h.mono (by first | omega | (simp; done) | (simp; omega))))))⟩
          case round =>
            obtain ⟨i, hi1, hiN, rfl, rfl, hbi⟩ := hrel
            have HBI := Lib.hid hbi
            clear hbi
            by_cases hin : i < 2
            · obtain ⟨x, hx⟩ : ∃ x, b[i]? = some x := ⟨_, List.getElem?_eq_getElem (by have := HL.out; have := HNL.out; omega)⟩
              obtain ⟨bb2, bo2, e2, hbb2, hbcell2⟩ := (HB.out.ext HBI.out).hat i x hx
              cases e2
              have hlt := cpTo_lt b 2 i hi1 (by omega) (by have := HL.out; have := HNL.out; omega)
              have hs := cpTo_succ (n := 2) hi1 hx
              obtain ⟨c, hc⟩ : ∃ c, cpTo b 2 i = c := ⟨_, rfl⟩
              rw [hc] at hlt hs ⊢
              have hx8' := x.toNat_lt
              have HS := Lib.hid hs
              have HIN := Lib.hid hin
              have k1 : (i : Int) < 2 := by omega
              have k2 : (i : Int) < (bl : Int) := by have := HNL.out; omega
              clear hx hs hc hin hiN
              go_wp2_with fail
              go_roundw
              case rel => exact ⟨i + 1, by omega, HIN.out, by go_num, by rw [HS.out]; simp, by have h := HBI.out; exact (by repeat (first | (with_reducible exact Below.refl _ _) | (with_reducible exact Below.refl _ _) | (with_reducible refine Below.setCell ?_ (by first | omega | (simp; done) | (simp; omega)) _) | (with_reducible refine Below.alloc ?_ (by first | omega | (simp; done) | (simp; omega)) _) | (with_reducible refine Below.drew ?_) | (with_reducible refine below_drewN ?_ _) | (with_reducible refine Below.trans ?_ (h.mono (by first | omega | (simp; done) | (simp; omega))))))⟩
              case measure => have := HIN.out; simp [intOf]; omega
            · obtain rfl : i = 2 := by omega
              have hlt := cpTo_lt b 2 2 (by omega) (by omega) (by have := HL.out; have := HNL.out; omega)
              obtain ⟨c, hc⟩ : ∃ c, cpAt b 2 = c := ⟨_, rfl⟩
              have hc' : cpTo b 2 2 = c := hc
              rw [hc'] at hlt ⊢
              have HC := Lib.hid hc
              clear hin hi1 hiN hc hc'
              go_wp2_with fail
              refine (Tryd_rIs c wr).mono ?_; rintro e w2 ⟨rfl, hb2⟩
              have HB2 := Lib.hid (HBI.out.trans (hb2.mono HBI.out.size))
              have HOK := Lib.hid (beginOk_cases (b := b) (n := 2) (by have := HL.out; have := HNL.out; omega))
              clear hb2
              cases hic : isCp c with
              | false =>
                have HNOK := Lib.hid (show beginOk b 2 = false by rw [HOK.out, HC.out, hic]; rfl)
                clear hic
                go_wp2_with fail
                go_roundw
                case rel => exact ⟨2 + 1, by omega, by omega, by go_num, HB2.out, fun m hm1 hm2 => by
                  by_cases hmn : m < 2
                  · exact HNO.out m hm1 hmn
                  · obtain rfl : m = 2 := by omega
                    exact HNOK.out⟩
                case measure => simp [intOf]
              | true =>
                have hcl : c ≤ 1114111 := by
                  unfold isCp at hic
                  rw [Bool.and_eq_true, decide_eq_true_eq] at hic
                  exact hic.1
                have HIC := Lib.hid hic
                clear hic
                go_wp2_with fail
                refine (Tryd_rBytes c w2 hcl).mono ?_; rintro e w3 ⟨⟨p, hp, rfl, hob⟩, hb3⟩
                obtain ⟨ol, hol⟩ : ∃ l, cpBytes c = l := ⟨_, rfl⟩
                rw [hol] at hob ⊢
                obtain ⟨on, hon⟩ : ∃ n, ol.length = n := ⟨_, rfl⟩
                rw [hon] at hob ⊢
                have HOB := Lib.hid hob
                have HB3 := Lib.hid (HB2.out.trans (hb3.mono HB2.out.size))
                have HOL := Lib.hid hol
                have HON := Lib.hid hon
                clear hob hb3 hol hon hcl
                by_cases hn : on = 2
                · subst hn
                  go_wp2_with fail
                  have hSt := Tryd_rStarts (some ⟨bb, bo, none⟩) (some ⟨p, 0, none⟩) bl bc 2 2 b ol w3 (HB.out.ext HB3.out) HOB.out
                  with_reducible refine hSt.mono ?_
                  rintro e w4 ⟨rfl, hb4⟩
                  have HB4 := Lib.hid (HB3.out.trans (hb4.mono HB3.out.size))
                  clear hb4
                  cases hst : startsB b ol with
                  | true =>
                    have e : r = (c, 2) := by
                      have h := HOK.out
                      rw [HC.out, HIC.out, HOL.out, HON.out, hst, decide_eq_true rfl] at h
                      rw [← HR.out, ← HC.out]
                      exact beginOf_ok (by omega) (by omega) h HNO.out
                    clear hst HR
                    subst e
                    go_wp2
                    go_ret2
                    exact ⟨rfl, HB4.out⟩
                  | false =>
                    have HNOK := Lib.hid (show beginOk b 2 = false by rw [HOK.out, HC.out, HIC.out, HOL.out, hst]; simp)
                    clear hst
                    go_wp2_with fail
                    go_roundw
                    case rel => exact ⟨2 + 1, by omega, by omega, by go_num, HB4.out, fun m hm1 hm2 => by
                      by_cases hmn : m < 2
                      · exact HNO.out m hm1 hmn
                      · obtain rfl : m = 2 := by omega
                        exact HNOK.out⟩
                    case measure => simp [intOf]
                · have d1 : ((on : Int) == 2) = false := by rw [beq_eq_false_iff_ne]; omega
                  have HNOK := Lib.hid (show beginOk b 2 = false by rw [HOK.out, HC.out, HIC.out, HOL.out, HON.out, decide_eq_false hn]; rfl)
                  clear hn
                  go_wp2_with fail
                  go_roundw
                  case rel => exact ⟨2 + 1, by omega, by omega, by go_num, HB3.out, fun m hm1 hm2 => by
                    by_cases hmn : m < 2
                    · exact HNO.out m hm1 hmn
                    · obtain rfl : m = 2 := by omega
                      exact HNOK.out⟩
                  case measure => simp [intOf]
        ·
          have HCF := Lib.hid (show ((cpFirst b 3 : Nat) : Int) = (x0.toNat : Int) % 16 by obtain ⟨xs, e⟩ := HBC.out; rw [e]; rfl)
          clear hn1 hn5 hn4 hnl
          go_wp2_with fail
          go_region
          go_wp2_with fail
          go_loopw [5, 6] (fun cx ix wi => ∃ i : Nat, 1 ≤ i ∧ i ≤ 3 ∧ ix = .int .i64 (i : Int) ∧ cx = .int .i64 ((cpTo b 3 i : Nat) : Int) ∧ Below w.heap.size w wi) (fun _ ix _ => 3 - (intOf ix).toNat)
          case atStart => exact ⟨1, by omega, by omega, by go_num, by rw [cpTo_one, HCF.out], by have h := HBE.out; have hs := h.size; exact (by repeat (first | (with_reducible exact Below.refl _ _) | (with_reducible exact Below.refl _ _) | (with_reducible refine Below.setCell ?_ (by first | omega | (simp; done) | (simp; omega)) _) | (with_reducible refine Below.alloc ?_ (by first | omega | (simp; done) | (simp; omega)) _) | (with_reducible refine Below.drew ?_) | (with_reducible refine below_drewN ?_ _) | (with_reducible refine Below.trans ?_ (h.mono (by first | omega | (simp; done) | (simp; omega))))))⟩
          case round =>
            obtain ⟨i, hi1, hiN, rfl, rfl, hbi⟩ := hrel
            have HBI := Lib.hid hbi
            clear hbi
            by_cases hin : i < 3
            · obtain ⟨x, hx⟩ : ∃ x, b[i]? = some x := ⟨_, List.getElem?_eq_getElem (by have := HL.out; have := HNL.out; omega)⟩
              obtain ⟨bb2, bo2, e2, hbb2, hbcell2⟩ := (HB.out.ext HBI.out).hat i x hx
              cases e2
              have hlt := cpTo_lt b 3 i hi1 (by omega) (by have := HL.out; have := HNL.out; omega)
              have hs := cpTo_succ (n := 3) hi1 hx
              obtain ⟨c, hc⟩ : ∃ c, cpTo b 3 i = c := ⟨_, rfl⟩
              rw [hc] at hlt hs ⊢
              have hx8' := x.toNat_lt
              have HS := Lib.hid hs
              have HIN := Lib.hid hin
              have k1 : (i : Int) < 3 := by omega
              have k2 : (i : Int) < (bl : Int) := by have := HNL.out; omega
              clear hx hs hc hin hiN
              go_wp2_with fail
              go_roundw
              case rel => exact ⟨i + 1, by omega, HIN.out, by go_num, by rw [HS.out]; simp, by have h := HBI.out; exact (by repeat (first | (with_reducible exact Below.refl _ _) | (with_reducible exact Below.refl _ _) | (with_reducible refine Below.setCell ?_ (by first | omega | (simp; done) | (simp; omega)) _) | (with_reducible refine Below.alloc ?_ (by first | omega | (simp; done) | (simp; omega)) _) | (with_reducible refine Below.drew ?_) | (with_reducible refine below_drewN ?_ _) | (with_reducible refine Below.trans ?_ (h.mono (by first | omega | (simp; done) | (simp; omega))))))⟩
              case measure => have := HIN.out; simp [intOf]; omega
            · obtain rfl : i = 3 := by omega
              have hlt := cpTo_lt b 3 3 (by omega) (by omega) (by have := HL.out; have := HNL.out; omega)
              obtain ⟨c, hc⟩ : ∃ c, cpAt b 3 = c := ⟨_, rfl⟩
              have hc' : cpTo b 3 3 = c := hc
              rw [hc'] at hlt ⊢
              have HC := Lib.hid hc
              clear hin hi1 hiN hc hc'
              go_wp2_with fail
              refine (Tryd_rIs c wr).mono ?_; rintro e w2 ⟨rfl, hb2⟩
              have HB2 := Lib.hid (HBI.out.trans (hb2.mono HBI.out.size))
              have HOK := Lib.hid (beginOk_cases (b := b) (n := 3) (by have := HL.out; have := HNL.out; omega))
              clear hb2
              cases hic : isCp c with
              | false =>
                have HNOK := Lib.hid (show beginOk b 3 = false by rw [HOK.out, HC.out, hic]; rfl)
                clear hic
                go_wp2_with fail
                go_roundw
                case rel => exact ⟨3 + 1, by omega, by omega, by go_num, HB2.out, fun m hm1 hm2 => by
                  by_cases hmn : m < 3
                  · exact HNO.out m hm1 hmn
                  · obtain rfl : m = 3 := by omega
                    exact HNOK.out⟩
                case measure => simp [intOf]
              | true =>
                have hcl : c ≤ 1114111 := by
                  unfold isCp at hic
                  rw [Bool.and_eq_true, decide_eq_true_eq] at hic
                  exact hic.1
                have HIC := Lib.hid hic
                clear hic
                go_wp2_with fail
                refine (Tryd_rBytes c w2 hcl).mono ?_; rintro e w3 ⟨⟨p, hp, rfl, hob⟩, hb3⟩
                obtain ⟨ol, hol⟩ : ∃ l, cpBytes c = l := ⟨_, rfl⟩
                rw [hol] at hob ⊢
                obtain ⟨on, hon⟩ : ∃ n, ol.length = n := ⟨_, rfl⟩
                rw [hon] at hob ⊢
                have HOB := Lib.hid hob
                have HB3 := Lib.hid (HB2.out.trans (hb3.mono HB2.out.size))
                have HOL := Lib.hid hol
                have HON := Lib.hid hon
                clear hob hb3 hol hon hcl
                by_cases hn : on = 3
                · subst hn
                  go_wp2_with fail
                  have hSt := Tryd_rStarts (some ⟨bb, bo, none⟩) (some ⟨p, 0, none⟩) bl bc 3 3 b ol w3 (HB.out.ext HB3.out) HOB.out
                  with_reducible refine hSt.mono ?_
                  rintro e w4 ⟨rfl, hb4⟩
                  have HB4 := Lib.hid (HB3.out.trans (hb4.mono HB3.out.size))
                  clear hb4
                  cases hst : startsB b ol with
                  | true =>
                    have e : r = (c, 3) := by
                      have h := HOK.out
                      rw [HC.out, HIC.out, HOL.out, HON.out, hst, decide_eq_true rfl] at h
                      rw [← HR.out, ← HC.out]
                      exact beginOf_ok (by omega) (by omega) h HNO.out
                    clear hst HR
                    subst e
                    go_wp2
                    go_ret2
                    exact ⟨rfl, HB4.out⟩
                  | false =>
                    have HNOK := Lib.hid (show beginOk b 3 = false by rw [HOK.out, HC.out, HIC.out, HOL.out, hst]; simp)
                    clear hst
                    go_wp2_with fail
                    go_roundw
                    case rel => exact ⟨3 + 1, by omega, by omega, by go_num, HB4.out, fun m hm1 hm2 => by
                      by_cases hmn : m < 3
                      · exact HNO.out m hm1 hmn
                      · obtain rfl : m = 3 := by omega
                        exact HNOK.out⟩
                    case measure => simp [intOf]
                · have d1 : ((on : Int) == 3) = false := by rw [beq_eq_false_iff_ne]; omega
                  have HNOK := Lib.hid (show beginOk b 3 = false by rw [HOK.out, HC.out, HIC.out, HOL.out, HON.out, decide_eq_false hn]; rfl)
                  clear hn
                  go_wp2_with fail
                  go_roundw
                  case rel => exact ⟨3 + 1, by omega, by omega, by go_num, HB3.out, fun m hm1 hm2 => by
                    by_cases hmn : m < 3
                    · exact HNO.out m hm1 hmn
                    · obtain rfl : m = 3 := by omega
                      exact HNOK.out⟩
                  case measure => simp [intOf]
        ·
          have HCF := Lib.hid (show ((cpFirst b 4 : Nat) : Int) = (x0.toNat : Int) % 8 by obtain ⟨xs, e⟩ := HBC.out; rw [e]; rfl)
          clear hn1 hn5 hn4 hnl
          go_wp2_with fail
          go_region
          go_wp2_with fail
          go_loopw [5, 6] (fun cx ix wi => ∃ i : Nat, 1 ≤ i ∧ i ≤ 4 ∧ ix = .int .i64 (i : Int) ∧ cx = .int .i64 ((cpTo b 4 i : Nat) : Int) ∧ Below w.heap.size w wi) (fun _ ix _ => 4 - (intOf ix).toNat)
          case atStart => exact ⟨1, by omega, by omega, by go_num, by rw [cpTo_one, HCF.out], by have h := HBE.out; have hs := h.size; exact (by repeat (first | (with_reducible exact Below.refl _ _) | (with_reducible exact Below.refl _ _) | (with_reducible refine Below.setCell ?_ (by first | omega | (simp; done) | (simp; omega)) _) | (with_reducible refine Below.alloc ?_ (by first | omega | (simp; done) | (simp; omega)) _) | (with_reducible refine Below.drew ?_) | (with_reducible refine below_drewN ?_ _) | (with_reducible refine Below.trans ?_ (h.mono (by first | omega | (simp; done) | (simp; omega))))))⟩
          case round =>
            obtain ⟨i, hi1, hiN, rfl, rfl, hbi⟩ := hrel
            have HBI := Lib.hid hbi
            clear hbi
            by_cases hin : i < 4
            · obtain ⟨x, hx⟩ : ∃ x, b[i]? = some x := ⟨_, List.getElem?_eq_getElem (by have := HL.out; have := HNL.out; omega)⟩
              obtain ⟨bb2, bo2, e2, hbb2, hbcell2⟩ := (HB.out.ext HBI.out).hat i x hx
              cases e2
              have hlt := cpTo_lt b 4 i hi1 (by omega) (by have := HL.out; have := HNL.out; omega)
              have hs := cpTo_succ (n := 4) hi1 hx
              obtain ⟨c, hc⟩ : ∃ c, cpTo b 4 i = c := ⟨_, rfl⟩
              rw [hc] at hlt hs ⊢
              have hx8' := x.toNat_lt
              have HS := Lib.hid hs
              have HIN := Lib.hid hin
              have k1 : (i : Int) < 4 := by omega
              have k2 : (i : Int) < (bl : Int) := by have := HNL.out; omega
              clear hx hs hc hin hiN
              go_wp2_with fail
              go_roundw
              case rel => exact ⟨i + 1, by omega, HIN.out, by go_num, by rw [HS.out]; simp, by have h := HBI.out; exact (by repeat (first | (with_reducible exact Below.refl _ _) | (with_reducible exact Below.refl _ _) | (with_reducible refine Below.setCell ?_ (by first | omega | (simp; done) | (simp; omega)) _) | (with_reducible refine Below.alloc ?_ (by first | omega | (simp; done) | (simp; omega)) _) | (with_reducible refine Below.drew ?_) | (with_reducible refine below_drewN ?_ _) | (with_reducible refine Below.trans ?_ (h.mono (by first | omega | (simp; done) | (simp; omega))))))⟩
              case measure => have := HIN.out; simp [intOf]; omega
            · obtain rfl : i = 4 := by omega
              have hlt := cpTo_lt b 4 4 (by omega) (by omega) (by have := HL.out; have := HNL.out; omega)
              obtain ⟨c, hc⟩ : ∃ c, cpAt b 4 = c := ⟨_, rfl⟩
              have hc' : cpTo b 4 4 = c := hc
              rw [hc'] at hlt ⊢
              have HC := Lib.hid hc
              clear hin hi1 hiN hc hc'
              go_wp2_with fail
              refine (Tryd_rIs c wr).mono ?_; rintro e w2 ⟨rfl, hb2⟩
              have HB2 := Lib.hid (HBI.out.trans (hb2.mono HBI.out.size))
              have HOK := Lib.hid (beginOk_cases (b := b) (n := 4) (by have := HL.out; have := HNL.out; omega))
              clear hb2
              cases hic : isCp c with
              | false =>
                have HNOK := Lib.hid (show beginOk b 4 = false by rw [HOK.out, HC.out, hic]; rfl)
                clear hic
                go_wp2_with fail
                go_roundw
                case rel => exact ⟨4 + 1, by omega, by omega, by go_num, HB2.out, fun m hm1 hm2 => by
                  by_cases hmn : m < 4
                  · exact HNO.out m hm1 hmn
                  · obtain rfl : m = 4 := by omega
                    exact HNOK.out⟩
                case measure => simp [intOf]
              | true =>
                have hcl : c ≤ 1114111 := by
                  unfold isCp at hic
                  rw [Bool.and_eq_true, decide_eq_true_eq] at hic
                  exact hic.1
                have HIC := Lib.hid hic
                clear hic
                go_wp2_with fail
                refine (Tryd_rBytes c w2 hcl).mono ?_; rintro e w3 ⟨⟨p, hp, rfl, hob⟩, hb3⟩
                obtain ⟨ol, hol⟩ : ∃ l, cpBytes c = l := ⟨_, rfl⟩
                rw [hol] at hob ⊢
                obtain ⟨on, hon⟩ : ∃ n, ol.length = n := ⟨_, rfl⟩
                rw [hon] at hob ⊢
                have HOB := Lib.hid hob
                have HB3 := Lib.hid (HB2.out.trans (hb3.mono HB2.out.size))
                have HOL := Lib.hid hol
                have HON := Lib.hid hon
                clear hob hb3 hol hon hcl
                by_cases hn : on = 4
                · subst hn
                  go_wp2_with fail
                  have hSt := Tryd_rStarts (some ⟨bb, bo, none⟩) (some ⟨p, 0, none⟩) bl bc 4 4 b ol w3 (HB.out.ext HB3.out) HOB.out
                  with_reducible refine hSt.mono ?_
                  rintro e w4 ⟨rfl, hb4⟩
                  have HB4 := Lib.hid (HB3.out.trans (hb4.mono HB3.out.size))
                  clear hb4
                  cases hst : startsB b ol with
                  | true =>
                    have e : r = (c, 4) := by
                      have h := HOK.out
                      rw [HC.out, HIC.out, HOL.out, HON.out, hst, decide_eq_true rfl] at h
                      rw [← HR.out, ← HC.out]
                      exact beginOf_ok (by omega) (by omega) h HNO.out
                    clear hst HR
                    subst e
                    go_wp2
                    go_ret2
                    exact ⟨rfl, HB4.out⟩
                  | false =>
                    have HNOK := Lib.hid (show beginOk b 4 = false by rw [HOK.out, HC.out, HIC.out, HOL.out, hst]; simp)
                    clear hst
                    go_wp2_with fail
                    go_roundw
                    case rel => exact ⟨4 + 1, by omega, by omega, by go_num, HB4.out, fun m hm1 hm2 => by
                      by_cases hmn : m < 4
                      · exact HNO.out m hm1 hmn
                      · obtain rfl : m = 4 := by omega
                        exact HNOK.out⟩
                    case measure => simp [intOf]
                · have d1 : ((on : Int) == 4) = false := by rw [beq_eq_false_iff_ne]; omega
                  have HNOK := Lib.hid (show beginOk b 4 = false by rw [HOK.out, HC.out, HIC.out, HOL.out, HON.out, decide_eq_false hn]; rfl)
                  clear hn
                  go_wp2_with fail
                  go_roundw
                  case rel => exact ⟨4 + 1, by omega, by omega, by go_num, HB3.out, fun m hm1 hm2 => by
                    by_cases hmn : m < 4
                    · exact HNO.out m hm1 hmn
                    · obtain rfl : m = 4 := by omega
                      exact HNOK.out⟩
                  case measure => simp [intOf]
      · have g1 : (n : Int) ≤ 4 := by omega
        have g2 : ¬ (n : Int) ≤ (bl : Int) := by omega
        have e : r = (0, 0) := by
          rw [← HR.out]; refine beginOf_no fun m hm1 hm4 => ?_
          by_cases hmn : m < n
          · exact HNO.out m hm1 hmn
          · unfold beginOk; rw [decide_eq_false (by have := HL.out; omega)]; rfl
        clear hn4 hnl hn1 hn5
        subst e
        go_wp2
        go_ret2
        exact ⟨rfl, by have h := HBE.out; exact (by repeat (first | (with_reducible exact Below.refl _ _) | (with_reducible exact Below.refl _ _) | (with_reducible refine Below.setCell ?_ (by first | omega | (simp; done) | (simp; omega)) _) | (with_reducible refine Below.alloc ?_ (by first | omega | (simp; done) | (simp; omega)) _) | (with_reducible refine Below.drew ?_) | (with_reducible refine below_drewN ?_ _) | (with_reducible refine Below.trans ?_ (h.mono (by first | omega | (simp; done) | (simp; omega))))))⟩
    · have g1 : ¬ (n : Int) ≤ 4 := by omega
      have e : r = (0, 0) := by
        rw [← HR.out]; exact beginOf_no fun m hm1 hm4 => HNO.out m hm1 (by omega)
      clear hn4 hn1 hn5
      subst e
      go_wp2
      go_ret2
      exact ⟨rfl, by have h := HBE.out; exact (by repeat (first | (with_reducible exact Below.refl _ _) | (with_reducible exact Below.refl _ _) | (with_reducible refine Below.setCell ?_ (by first | omega | (simp; done) | (simp; omega)) _) | (with_reducible refine Below.alloc ?_ (by first | omega | (simp; done) | (simp; omega)) _) | (with_reducible refine Below.drew ?_) | (with_reducible refine below_drewN ?_ _) | (with_reducible refine Below.trans ?_ (h.mono (by first | omega | (simp; done) | (simp; omega))))))⟩
end Go.Proofs.YtmcmknndhppljaaDoor

namespace Go.Dav
set_option linter.unusedVariables false
set_option linter.unusedSimpArgs false
open Go Go.RowKit
def natsV (l : List Nat) : List Value := l.map fun x : Nat => Value.int .i64 ((x : Nat) : Int)
theorem natsV_snoc (l : List Nat) (x : Nat) : natsV (l ++ [x]) = natsV l ++ [.int .i64 (x : Int)] := by simp [natsV]
theorem natsV_len (l : List Nat) : (natsV l).length = l.length := by simp [natsV]
/-- The code points of a row of bytes, how many bytes they take, and whether it is a text. -/
def ptsGo : Nat → List UInt8 → List Nat × Nat × Bool
  | 0, _ => ([], 0, true)
  | k + 1, b => if b = [] then ([], 0, true) else if (beginOf b).2 = 0 then ([], 0, false) else
      ((beginOf b).1 :: (ptsGo k (b.drop (beginOf b).2)).1, (beginOf b).2 + (ptsGo k (b.drop (beginOf b).2)).2.1, (ptsGo k (b.drop (beginOf b).2)).2.2)
def ptsOf (b : List UInt8) : List Nat × Nat × Bool := ptsGo b.length b
/-- Is a string a text? -/
def validB (b : List UInt8) : Bool := (ptsOf b).2.2
theorem beginOk_len {b : List UInt8} {n : Nat} (h : beginOk b n = true) : n ≤ b.length := by
  unfold beginOk at h
  rw [Bool.and_eq_true, decide_eq_true_eq] at h
  exact h.1
theorem beginOf_len (b : List UInt8) : (beginOf b).2 ≤ b.length := by
  unfold beginOf
  by_cases h1 : beginOk b 1 = true
  · rw [if_pos h1]; exact beginOk_len h1
  rw [if_neg h1]
  by_cases h2 : beginOk b 2 = true
  · rw [if_pos h2]; exact beginOk_len h2
  rw [if_neg h2]
  by_cases h3 : beginOk b 3 = true
  · rw [if_pos h3]; exact beginOk_len h3
  rw [if_neg h3]
  by_cases h4 : beginOk b 4 = true
  · rw [if_pos h4]; exact beginOk_len h4
  rw [if_neg h4]; exact Nat.zero_le _
theorem ptsGo_fuel : ∀ (k : Nat) (b : List UInt8), b.length ≤ k → ptsGo k b = ptsGo b.length b
  | 0, b, h => by
    have : b = [] := List.length_eq_zero_iff.1 (by omega)
    subst this; rfl
  | k + 1, b, h => by
    cases hb : b with
    | nil => rfl
    | cons x xs =>
      rw [← hb]
      have hl : b.length = xs.length + 1 := by rw [hb]; rfl
      have hne : b ≠ [] := by rw [hb]; exact List.cons_ne_nil _ _
      rw [hl]
      unfold ptsGo
      rw [if_neg hne, if_neg hne]
      by_cases h0 : (beginOf b).2 = 0
      · rw [if_pos h0, if_pos h0]
      · rw [if_neg h0, if_neg h0]
        have e : (b.drop (beginOf b).2).length ≤ xs.length := by rw [List.length_drop]; omega
        rw [ptsGo_fuel k _ (by omega), ptsGo_fuel xs.length _ e]
theorem ptsOf_nil : ptsOf [] = ([], 0, true) := rfl
theorem ptsOf_no {b : List UInt8} (hne : b ≠ []) (h0 : (beginOf b).2 = 0) : ptsOf b = ([], 0, false) := by
  unfold ptsOf
  cases b with
  | nil => exact absurd rfl hne
  | cons x xs => show ptsGo (xs.length + 1) _ = _; unfold ptsGo; rw [if_neg hne, if_pos h0]
theorem ptsOf_go {b : List UInt8} (hne : b ≠ []) (h0 : (beginOf b).2 ≠ 0) : ptsOf b = ((beginOf b).1 :: (ptsOf (b.drop (beginOf b).2)).1, (beginOf b).2 + (ptsOf (b.drop (beginOf b).2)).2.1, (ptsOf (b.drop (beginOf b).2)).2.2) := by
  have hg : ∀ k, b.length = k + 1 → ptsOf b = ((beginOf b).1 :: (ptsGo k (b.drop (beginOf b).2)).1, (beginOf b).2 + (ptsGo k (b.drop (beginOf b).2)).2.1, (ptsGo k (b.drop (beginOf b).2)).2.2) := fun k hk => by
    unfold ptsOf
    rw [hk]
    show ptsGo (k + 1) b = _
    conv => lhs; unfold ptsGo
    rw [if_neg hne, if_neg h0]
  cases hb : b.length with
  | zero => exact absurd (List.length_eq_zero_iff.1 hb) hne
  | succ k =>
    rw [hg k hb, ptsGo_fuel k _ (by rw [List.length_drop]; omega)]
    rfl
/-- What is known of the points, at a place behind those that were read. -/
def PtsAt (b : List UInt8) (acc : List Nat) (at_ : Nat) : Prop := ptsOf b = (acc ++ (ptsOf (b.drop at_)).1, at_ + (ptsOf (b.drop at_)).2.1, (ptsOf (b.drop at_)).2.2)
theorem PtsAt.zero (b : List UInt8) : PtsAt b [] 0 := by unfold PtsAt; simp
theorem PtsAt.next {b : List UInt8} {acc : List Nat} {at_ : Nat} (h : PtsAt b acc at_) (hl : at_ < b.length) (h0 : (beginOf (b.drop at_)).2 ≠ 0) : PtsAt b (acc ++ [(beginOf (b.drop at_)).1]) (at_ + (beginOf (b.drop at_)).2) := by
  unfold PtsAt at h ⊢
  rw [ptsOf_go (fun e => by have := congrArg List.length e; rw [List.length_drop] at this; simp at this; omega) h0, List.drop_drop] at h
  rw [h]
  simp [Nat.add_assoc]
theorem PtsAt.stop {b : List UInt8} {acc : List Nat} {at_ : Nat} (h : PtsAt b acc at_) (hl : at_ < b.length) (h0 : (beginOf (b.drop at_)).2 = 0) : ptsOf b = (acc, at_, false) := by
  unfold PtsAt at h
  rw [ptsOf_no (fun e => by have := congrArg List.length e; rw [List.length_drop] at this; simp at this; omega) h0] at h
  rw [h]; simp
theorem PtsAt.done {b : List UInt8} {acc : List Nat} (h : PtsAt b acc b.length) : ptsOf b = (acc, b.length, true) := by
  unfold PtsAt at h
  rw [List.drop_length, ptsOf_nil] at h
  rw [h]; simp
/-- What Points hands back. -/
def PtsBack (t : TypeId) (w : World) (b : List UInt8) (e : Ending) (w' : World) : Prop :=
  if validB b = true then ∃ v, e = .returned (.tuple #[v, .int .i64 0, .bool true]) ∧ w'.ownsRow w.heap.size t 1 v (ptsOf b).1.length (natsV (ptsOf b).1) ∧ Below w.heap.size w w'
  else e = .returned (.tuple #[.slice none 0 0, .int .i64 ((ptsOf b).2.1 : Int), .bool false]) ∧ Below w.heap.size w w'
end Go.Dav
namespace Go.Proofs.YtmcmknndhppljaaDoor
set_option linter.unusedVariables false
set_option linter.unusedSimpArgs false
open Go.RowKit Go.Dav
attribute [local go_sem] Gives ite_val ite_val_true

theorem Tryd_infoInt : (Tryd.prog.info? 3).map (fun i => (i.zero, i.size, i.bytes)) = some (some (.int .i64 0), 1, 8) := by kernel_rfl
theorem Tryd_elemInt : Elem1 Tryd.prog 45 3 8 := by
  obtain ⟨i0, hi, hz0, hz1, hz2⟩ := info_parts Tryd_infoInt
  exact ⟨Tryd.underlying45, i0, _, hi, hz0, hz1, hz2, rfl⟩

/-- The bytes of a string, in new memory. -/
theorem Tryd_convBytes (s : ByteArray) (w : World) (hs : s.size ≤ 140737488355328) :
    ∃ c, (convert 9 25 (.string s)).run Tryd.prog w = .ok (.slice (some ⟨w.heap.size, 0, none⟩) s.size c) (Lib.bytesWorld w 5 s) ∧ BytesAt (Lib.bytesWorld w 5 s) (some ⟨w.heap.size, 0, none⟩) s.size c s.data.toList ∧ Below w.heap.size w (Lib.bytesWorld w 5 s) := by
  refine ⟨_, Lib.run_convert_string_bytes w 9 25 5 s Tryd.underlying9 Tryd.underlying25 Tryd.underlying5, ⟨Array.length_toList, grownCap_ge _ _ _ _, grownCap_le_maxLen _ _ _ _ (by unfold maxLen; omega), hs, fun k x hk => ?_, fun e => by cases e⟩, ⟨rfl, rfl, rfl, by rw [Lib.bytesWorld_size]; omega, fun k hk => Lib.bytesWorld_at_old w _ s k hk⟩⟩
  have hkl := (List.getElem?_eq_some_iff.1 hk).1
  refine ⟨w.heap.size, 0, rfl, by rw [Lib.bytesWorld_size]; omega, ?_⟩
  rw [Nat.zero_add, Lib.bytesWorld_cell w _ s k (by rw [Array.length_toList] at hkl; exact hkl)]
  simp [List.getD, hk]

set_option maxRecDepth 8000 in
set_option maxHeartbeats 4000000 in
theorem Tryd_rPoints (ba : Option Addr) (bl bc : Nat) (b : List UInt8) (w : World) (hb : BytesAt w ba bl bc b) (hbl : bl ≤ 17592186044416) :
    Calls Tryd.prog 52 #[.slice ba bl bc] w (PtsBack 3 w b) := by
  have HB := Lib.hid hb
  have HL := Lib.hid hb.hlen
  have hcap := hb.hcap
  clear hb
  go_enter Tryd.func52, Tryd.ntmps52
  go_wp2_with fail
  go_loopw [5, 6] (fun ov ix wr => ∃ (i : Nat) (acc : List Nat), i ≤ bl ∧ acc.length ≤ i ∧ ix = .int .i64 (i : Int) ∧ PtsAt b acc i ∧ wr.ownsRow w.heap.size 3 1 ov acc.length (natsV acc) ∧ Below w.heap.size w wr) (fun _ ix _ => bl - (intOf ix).toNat)
  case atStart => exact ⟨0, [], Nat.zero_le _, Nat.le_refl _, by go_num, PtsAt.zero b, World.ownsRow_nil _ _ _ _, Below.refl _ _⟩
  case round =>
    obtain ⟨i, acc, hi, hac, rfl, hpt, hor, hbel⟩ := hrel
    have HPT := Lib.hid hpt
    have HOR := Lib.hid hor
    have HBE := Lib.hid hbel
    obtain ⟨oa, oc, rfl, _⟩ := own_cells hor
    have hsr := hbel.size
    clear hpt hor hbel
    by_cases hlt : i < bl
    · have g1 : (i : Int) < (bl : Int) := by omega
      obtain ⟨x0, hx0⟩ : ∃ x0, b[i]? = some x0 := ⟨_, List.getElem?_eq_getElem (by have := HL.out; omega)⟩
      obtain ⟨bb, bo, rfl, _, _⟩ := HB.out.hat i x0 hx0
      have g2 : (i : Int) ≤ (bl : Int) := by omega
      have g3 : (bl : Int) ≤ (bc : Int) := by omega
      have HD := Lib.hid (show BytesAt wr (some ⟨bb, bo + i, none⟩) (bl - i) (bc - i) (b.drop i) from by
        have h := HB.out.ext HBE.out
        refine ⟨by rw [List.length_drop, HL.out], by omega, by have := h.hmax; omega, by have := h.hfew; omega, fun k x hk => ?_, fun e => by cases e⟩
        rw [List.getElem?_drop] at hk
        obtain ⟨b', o', e, h1, h2⟩ := h.hat (i + k) x hk
        cases e
        exact ⟨bb, bo + i, rfl, h1, by rw [Nat.add_assoc]; exact h2⟩)
      have HLT := Lib.hid hlt
      clear hx0 hlt hi
      go_wp2_with fail
      refine (Tryd_rBegin (some ⟨bb, bo + i, none⟩) (bl - i) (bc - i) (b.drop i) wr HD.out (by have := HLT.out; omega)).mono ?_; rintro e w1 ⟨rfl, hb1⟩
      have hbn := beginOf_len (b.drop i)
      rw [List.length_drop, HL.out] at hbn
      obtain ⟨n, hn⟩ : ∃ n, (beginOf (b.drop i)).2 = n := ⟨_, rfl⟩
      obtain ⟨c, hc⟩ : ∃ c, (beginOf (b.drop i)).1 = c := ⟨_, rfl⟩
      rw [hn] at hbn ⊢
      rw [hc]
      have HN := Lib.hid hn
      have HC := Lib.hid hc
      have HB1 := Lib.hid (HBE.out.trans (hb1.mono HBE.out.size))
      have HO1 := Lib.hid (ownsRow_ext HOR.out hb1)
      have hs1 := hb1.size
      have hbn' : i + n ≤ bl := by have := HLT.out; omega
      clear hn hc hb1 hbn
      by_cases h0 : n = 0
      · subst h0
        have hst := HPT.out.stop (by rw [HL.out]; exact HLT.out) HN.out
        have HV := Lib.hid hst
        clear hst hbn'
        go_wp2
        refine bodyPost_ret (v := .tuple #[.slice none 0 0, .int .i64 (i : Int), .bool false]) (by simp [results, Tryd.results52, go_sem]) rfl ?_
        unfold PtsBack validB
        rw [HV.out]
        exact ⟨rfl, HB1.out⟩
      · have d1 : ((n : Int) == 0) = false := by rw [beq_eq_false_iff_ne]; omega
        have hnx := HPT.out.next (by rw [HL.out]; exact HLT.out) (by rw [HN.out]; exact h0)
        rw [HN.out, HC.out] at hnx
        have HNX := Lib.hid hnx
        have u1 : IntKind.i64.wrap ((i : Int) + (n : Int)) = (i : Int) + (n : Int) := IntWalk.i64_in _ (by omega)
        have HCX := Lib.hid (cells_one (S := fun b => b = w1.heap.size) (g := w1.heap.size) (v := .int .i64 (c : Int)) rfl (by simp) (Blk.new w1 [.int .i64 (c : Int)] 3 |>.cell 0 rfl))
        have hi0 := HLT.out
        clear hnx
        go_wp2_with (at_builtin; refine wpList_append_rowS rfl (.tmp 23) (.tmp 25) 45 rfl Tryd_elemInt w.heap.size _ acc.length (natsV acc) rfl (HO1.out.alloc _) (fun b => b = w1.heap.size) (some ⟨w1.heap.size, 0, none⟩) 1 1 [.int .i64 (c : Int)] rfl HCX.out (fun u hu => by simp at hu; subst hu; rfl) (fun h => by cases h) (by unfold maxLen; omega) (by omega) (by simp; omega) ?_; intro v7 w7 hown7 hgrow7; have HBL7 := Lib.hid (below_own (HB1.out.alloc (by omega) _) (by simp; omega) (HO1.out.alloc _) (Nat.le_refl _) hgrow7); have HO7 := Lib.hid hown7; clear HCX hown7 hgrow7)
        go_roundw
        case rel =>
          refine ⟨i + n, acc ++ [c], hbn', by rw [List.length_append]; simp; omega, by go_num, HNX.out, ?_, HBL7.out⟩
          rw [List.length_append, natsV_snoc]; exact HO7.out
        case measure => simp [intOf]; omega
    · have g1 : ¬ (i : Int) < (bl : Int) := by omega
      obtain rfl : i = bl := by omega
      have hdn := HPT.out
      rw [← HL.out] at hdn
      have HV := Lib.hid hdn.done
      clear hdn hlt hi
      go_wp2
      refine bodyPost_ret (v := .tuple #[.slice oa acc.length oc, .int .i64 0, .bool true]) (by simp [results, Tryd.results52, go_sem]) rfl ?_
      unfold PtsBack validB
      rw [HV.out]
      exact ⟨_, rfl, HOR.out, HBE.out⟩

theorem Tryd_rValid (s : ByteArray) (w : World) (hs : s.size ≤ 17592186044416) :
    Calls Tryd.prog 20 #[.string s] w fun e w' => e = .returned (.bool (validB s.data.toList)) ∧ Below w.heap.size w w' := by
  obtain ⟨vb, hvb⟩ : ∃ v, validB s.data.toList = v := ⟨_, rfl⟩
  rw [hvb]
  have HVB := Lib.hid hvb
  clear hvb
  obtain ⟨c, hcv, hby, hbw⟩ := Tryd_convBytes s w (by omega)
  have HBY := Lib.hid hby
  have HBW := Lib.hid hbw
  obtain ⟨W1, hW1⟩ : ∃ W1, Lib.bytesWorld w 5 s = W1 := ⟨_, rfl⟩
  rw [hW1] at hcv HBY HBW
  clear hby hbw hW1
  go_enter Tryd.func20, Tryd.ntmps20
  go_wp2_with fail
  refine (Tryd_rPoints _ s.size c s.data.toList W1 HBY.out hs).mono ?_
  intro e w2 hp
  unfold PtsBack at hp
  rw [HVB.out] at hp
  cases vb with
  | true =>
    rw [if_pos rfl] at hp
    obtain ⟨v, rfl, _, hb2⟩ := hp
    have BEL := Lib.hid (HBW.out.trans (hb2.mono HBW.out.size))
    clear hb2
    go_wp2
    go_ret
    exact ⟨rfl, BEL.out⟩
  | false =>
    rw [if_neg (by decide)] at hp
    obtain ⟨rfl, hb2⟩ := hp
    have BEL := Lib.hid (HBW.out.trans (hb2.mono HBW.out.size))
    clear hb2
    go_wp2
    go_ret
    exact ⟨rfl, BEL.out⟩
end Go.Proofs.YtmcmknndhppljaaDoor

namespace Go.Dav
set_option linter.unusedVariables false
set_option linter.unusedSimpArgs false
open Go Go.RowKit
/-- How many bytes a code point has; 0: it is none. -/
def sizeOfCp (c : Nat) : Nat := if isCp c = true then (cpBytes c).length else 0
/-- How many bytes a first byte says. -/
def formOf (x : UInt8) : Nat :=
  if x.toNat < 128 then 1 else if 192 ≤ x.toNat ∧ x.toNat < 224 then 2 else if 224 ≤ x.toNat ∧ x.toNat < 240 then 3 else if 240 ≤ x.toNat ∧ x.toNat < 248 then 4 else 0
/-- Do the bytes behind the first go on? -/
def contsOk (b : List UInt8) (n : Nat) : Bool := ((b.take n).drop 1).all fun c => c.toNat / 64 == 2
def nextN (b : List UInt8) : Nat × Nat :=
  let n := formOf (b.headD 0)
  if n = 0 ∨ b.length < n then (0, 0) else if contsOk b n = false then (0, 0) else if sizeOfCp (cpAt b n) ≠ n then (0, 0) else (cpAt b n, n)
theorem cpBytes_size (c : Nat) : (cpBytes c).length = if c < 128 then 1 else if c < 2048 then 2 else if c < 65536 then 3 else 4 := by
  unfold cpBytes
  by_cases h1 : c < 128
  · rw [if_pos h1, if_pos h1]; rfl
  · rw [if_neg h1, if_neg h1]
    by_cases h2 : c < 2048
    · rw [if_pos h2, if_pos h2]; rfl
    · rw [if_neg h2, if_neg h2]
      by_cases h3 : c < 65536
      · rw [if_pos h3, if_pos h3]; rfl
      · rw [if_neg h3, if_neg h3]; rfl
theorem u8_of {x : UInt8} {n : Nat} (h : n < 256) : UInt8.ofNat n = x ↔ n = x.toNat := by
  rw [← UInt8.toNat_inj, UInt8.toNat_ofNat', Nat.mod_eq_of_lt (by omega)]
theorem isCp_le {c : Nat} (h : isCp c = true) : c ≤ 1114111 := by
  unfold isCp at h
  simp only [Bool.and_eq_true, decide_eq_true_eq] at h
  exact h.1
theorem formOf_eq (x : UInt8) (m : Nat) (h : 1 ≤ m) : formOf x = m ↔ (m = 1 ∧ x.toNat < 128) ∨ (m = 2 ∧ 192 ≤ x.toNat ∧ x.toNat < 224) ∨ (m = 3 ∧ 224 ≤ x.toNat ∧ x.toNat < 240) ∨ (m = 4 ∧ 240 ≤ x.toNat ∧ x.toNat < 248) := by
  unfold formOf
  split
  · omega
  · split
    · omega
    · split
      · omega
      · split <;> omega
theorem form1 (x : UInt8) : formOf x = 1 ↔ x.toNat < 128 := by rw [formOf_eq x 1 (by omega)]; omega
theorem form2 (x : UInt8) : formOf x = 2 ↔ 192 ≤ x.toNat ∧ x.toNat < 224 := by rw [formOf_eq x 2 (by omega)]; omega
theorem form3 (x : UInt8) : formOf x = 3 ↔ 224 ≤ x.toNat ∧ x.toNat < 240 := by rw [formOf_eq x 3 (by omega)]; omega
theorem form4 (x : UInt8) : formOf x = 4 ↔ 240 ≤ x.toNat ∧ x.toNat < 248 := by rw [formOf_eq x 4 (by omega)]; omega
theorem sizeOfCp_eq {c m : Nat} (h : 1 ≤ m) : sizeOfCp c = m ↔ isCp c = true ∧ (cpBytes c).length = m := by
  unfold sizeOfCp
  by_cases hc : isCp c = true
  · rw [if_pos hc]; simp [hc]
  · rw [if_neg hc]; constructor
    · intro e; omega
    · intro e; exact (hc e.1).elim
theorem beginOk_iff (b : List UInt8) (m : Nat) : beginOk b m = true ↔ m ≤ b.length ∧ isCp (cpAt b m) = true ∧ cpBytes (cpAt b m) = b.take m := by
  unfold beginOk
  rw [Bool.and_eq_true, Bool.and_eq_true, decide_eq_true_eq, decide_eq_true_eq]
theorem begin_one (x : UInt8) (xs : List UInt8) : beginOk (x :: xs) 1 = true ↔ 1 ≤ (x :: xs).length ∧ formOf x = 1 ∧ contsOk (x :: xs) 1 = true ∧ sizeOfCp (cpAt (x :: xs) 1) = 1 := by
  have hx := x.toNat_lt
  have e : cpAt (x :: xs) 1 = x.toNat := by simp [cpAt, cpTo, cpFirst]
  rw [beginOk_iff, e, sizeOfCp_eq (by omega), form1, cpBytes_size]
  simp only [Bool.and_eq_true, List.length_cons, List.take_succ_cons, List.take_zero, contsOk, List.drop_succ_cons, List.drop_zero, List.all_nil]
  constructor
  · rintro ⟨h1, h2, h3⟩
    have hl := congrArg List.length h3
    rw [cpBytes_size] at hl
    simp only [List.length_cons, List.length_nil] at hl
    have : x.toNat < 128 := by
      by_cases h : x.toNat < 128
      · exact h
      · rw [if_neg h] at hl; split at hl <;> (try split at hl) <;> omega
    exact ⟨h1, this, trivial, h2, by rw [if_pos this]⟩
  · rintro ⟨h1, h2, _, h3, h4⟩
    have hx2 : x.toNat < 128 := by omega
    refine ⟨h1, h3, ?_⟩
    unfold cpBytes
    rw [if_pos hx2]
    simp
theorem begin_two (x y : UInt8) (xs : List UInt8) : beginOk (x :: y :: xs) 2 = true ↔ 2 ≤ (x :: y :: xs).length ∧ formOf x = 2 ∧ contsOk (x :: y :: xs) 2 = true ∧ sizeOfCp (cpAt (x :: y :: xs) 2) = 2 := by
  have hx := x.toNat_lt
  have hy := y.toNat_lt
  obtain ⟨c, hc⟩ : ∃ c, cpAt (x :: y :: xs) 2 = c := ⟨_, rfl⟩
  have e : c = x.toNat % 32 * 64 + y.toNat % 64 := by rw [← hc]; simp [cpAt, cpTo, cpFirst]
  rw [beginOk_iff, hc, sizeOfCp_eq (by omega), form2, cpBytes_size]
  simp only [Bool.and_eq_true, List.length_cons, List.take_succ_cons, List.take_zero, contsOk, List.drop_succ_cons, List.drop_zero, List.all_cons, List.all_nil, beq_iff_eq, and_true]
  constructor
  · rintro ⟨h1, h2, h3⟩
    have hl := congrArg List.length h3
    rw [cpBytes_size] at hl
    simp only [List.length_cons, List.length_nil] at hl
    have a1 : ¬ c < 128 := fun h => by rw [if_pos h] at hl; omega
    rw [if_neg a1] at hl
    have a2 : c < 2048 := by
      by_cases h : c < 2048
      · exact h
      · rw [if_neg h] at hl; split at hl <;> omega
    unfold cpBytes at h3
    rw [if_neg a1, if_pos a2] at h3
    simp only [List.cons.injEq, and_true] at h3
    rw [u8_of (by omega), u8_of (by omega)] at h3
    exact ⟨h1, by omega, by omega, h2, by rw [if_neg a1, if_pos a2]⟩
  · rintro ⟨h1, h2, h5, h3, h4⟩
    have a1 : ¬ c < 128 := fun h => by rw [if_pos h] at h4; omega
    rw [if_neg a1] at h4
    have a2 : c < 2048 := by
      by_cases h : c < 2048
      · exact h
      · rw [if_neg h] at h4; split at h4 <;> omega
    refine ⟨h1, h3, ?_⟩
    unfold cpBytes
    rw [if_neg a1, if_pos a2]
    simp only [List.cons.injEq, and_true]
    rw [u8_of (by omega), u8_of (by omega)]
    omega
theorem begin_three (x y z : UInt8) (xs : List UInt8) : beginOk (x :: y :: z :: xs) 3 = true ↔ 3 ≤ (x :: y :: z :: xs).length ∧ formOf x = 3 ∧ contsOk (x :: y :: z :: xs) 3 = true ∧ sizeOfCp (cpAt (x :: y :: z :: xs) 3) = 3 := by
  have hx := x.toNat_lt
  have hy := y.toNat_lt
  have hz := z.toNat_lt
  obtain ⟨c, hc⟩ : ∃ c, cpAt (x :: y :: z :: xs) 3 = c := ⟨_, rfl⟩
  have e : c = (x.toNat % 16 * 64 + y.toNat % 64) * 64 + z.toNat % 64 := by rw [← hc]; simp [cpAt, cpTo, cpFirst]
  rw [beginOk_iff, hc, sizeOfCp_eq (by omega), form3, cpBytes_size]
  simp only [Bool.and_eq_true, List.length_cons, List.take_succ_cons, List.take_zero, contsOk, List.drop_succ_cons, List.drop_zero, List.all_cons, List.all_nil, beq_iff_eq, and_true]
  constructor
  · rintro ⟨h1, h2, h3⟩
    have hl := congrArg List.length h3
    rw [cpBytes_size] at hl
    simp only [List.length_cons, List.length_nil] at hl
    have a1 : ¬ c < 128 := fun h => by rw [if_pos h] at hl; omega
    rw [if_neg a1] at hl
    have a2 : ¬ c < 2048 := fun h => by rw [if_pos h] at hl; omega
    rw [if_neg a2] at hl
    have a3 : c < 65536 := by
      by_cases h : c < 65536
      · exact h
      · rw [if_neg h] at hl; omega
    unfold cpBytes at h3
    rw [if_neg a1, if_neg a2, if_pos a3] at h3
    simp only [List.cons.injEq, and_true] at h3
    rw [u8_of (by omega), u8_of (by omega), u8_of (by omega)] at h3
    exact ⟨h1, by omega, by omega, h2, by rw [if_neg a1, if_neg a2, if_pos a3]⟩
  · rintro ⟨h1, h2, h5, h3, h4⟩
    have a1 : ¬ c < 128 := fun h => by rw [if_pos h] at h4; omega
    rw [if_neg a1] at h4
    have a2 : ¬ c < 2048 := fun h => by rw [if_pos h] at h4; omega
    rw [if_neg a2] at h4
    have a3 : c < 65536 := by
      by_cases h : c < 65536
      · exact h
      · rw [if_neg h] at h4; omega
    refine ⟨h1, h3, ?_⟩
    unfold cpBytes
    rw [if_neg a1, if_neg a2, if_pos a3]
    simp only [List.cons.injEq, and_true]
    rw [u8_of (by omega), u8_of (by omega), u8_of (by omega)]
    omega
theorem begin_four (x y z u : UInt8) (xs : List UInt8) : beginOk (x :: y :: z :: u :: xs) 4 = true ↔ 4 ≤ (x :: y :: z :: u :: xs).length ∧ formOf x = 4 ∧ contsOk (x :: y :: z :: u :: xs) 4 = true ∧ sizeOfCp (cpAt (x :: y :: z :: u :: xs) 4) = 4 := by
  have hx := x.toNat_lt
  have hy := y.toNat_lt
  have hz := z.toNat_lt
  have hu := u.toNat_lt
  obtain ⟨c, hc⟩ : ∃ c, cpAt (x :: y :: z :: u :: xs) 4 = c := ⟨_, rfl⟩
  have e : c = ((x.toNat % 8 * 64 + y.toNat % 64) * 64 + z.toNat % 64) * 64 + u.toNat % 64 := by rw [← hc]; simp [cpAt, cpTo, cpFirst]
  rw [beginOk_iff, hc, sizeOfCp_eq (by omega), form4, cpBytes_size]
  simp only [Bool.and_eq_true, List.length_cons, List.take_succ_cons, List.take_zero, contsOk, List.drop_succ_cons, List.drop_zero, List.all_cons, List.all_nil, beq_iff_eq, and_true]
  constructor
  · rintro ⟨h1, h2, h3⟩
    have hm := isCp_le h2
    have hl := congrArg List.length h3
    rw [cpBytes_size] at hl
    simp only [List.length_cons, List.length_nil] at hl
    have a1 : ¬ c < 128 := fun h => by rw [if_pos h] at hl; omega
    rw [if_neg a1] at hl
    have a2 : ¬ c < 2048 := fun h => by rw [if_pos h] at hl; omega
    rw [if_neg a2] at hl
    have a3 : ¬ c < 65536 := fun h => by rw [if_pos h] at hl; omega
    unfold cpBytes at h3
    rw [if_neg a1, if_neg a2, if_neg a3] at h3
    simp only [List.cons.injEq, and_true] at h3
    rw [u8_of (by omega), u8_of (by omega), u8_of (by omega), u8_of (by omega)] at h3
    clear e hl
    have q1 : c / 262144 ≤ 4 := by omega
    have q2 : c / 4096 % 64 < 64 := Nat.mod_lt _ (by omega)
    have q3 : c / 64 % 64 < 64 := Nat.mod_lt _ (by omega)
    have q4 : c % 64 < 64 := Nat.mod_lt _ (by omega)
    obtain ⟨r1, r2, r3, r4⟩ := h3
    generalize c / 262144 = t1 at *
    generalize c / 4096 % 64 = t2 at *
    generalize c / 64 % 64 = t3 at *
    generalize c % 64 = t4 at *
    exact ⟨h1, by omega, ⟨by omega, by omega, by omega⟩, h2, by rw [if_neg a1, if_neg a2, if_neg a3]⟩
  · rintro ⟨h1, h2, h5, h3, h4⟩
    have hm := isCp_le h3
    have a1 : ¬ c < 128 := fun h => by rw [if_pos h] at h4; omega
    rw [if_neg a1] at h4
    have a2 : ¬ c < 2048 := fun h => by rw [if_pos h] at h4; omega
    rw [if_neg a2] at h4
    have a3 : ¬ c < 65536 := fun h => by rw [if_pos h] at h4; omega
    refine ⟨h1, h3, ?_⟩
    unfold cpBytes
    rw [if_neg a1, if_neg a2, if_neg a3]
    simp only [List.cons.injEq, and_true]
    have w1 : x.toNat = 240 + x.toNat % 8 := by omega
    have w2 : y.toNat = 128 + y.toNat % 64 := by omega
    have w3 : z.toNat = 128 + z.toNat % 64 := by omega
    have w4 : u.toNat = 128 + u.toNat % 64 := by omega
    have v1 : x.toNat % 8 < 8 := Nat.mod_lt _ (by omega)
    have v2 : y.toNat % 64 < 64 := Nat.mod_lt _ (by omega)
    have v3 : z.toNat % 64 < 64 := Nat.mod_lt _ (by omega)
    have v4 : u.toNat % 64 < 64 := Nat.mod_lt _ (by omega)
    generalize x.toNat % 8 = t1 at *
    generalize y.toNat % 64 = t2 at *
    generalize z.toNat % 64 = t3 at *
    generalize u.toNat % 64 = t4 at *
    clear h2 h4 h5 hx hy hz hu
    have p1 : c / 262144 = t1 := by omega
    have p2 : c / 4096 % 64 = t2 := by
      have : c / 4096 = t1 * 64 + t2 := by omega
      omega
    have p3 : c / 64 % 64 = t3 := by
      have : c / 64 = (t1 * 64 + t2) * 64 + t3 := by omega
      omega
    have p4 : c % 64 = t4 := by omega
    rw [p1, p2, p3, p4, u8_of (by omega), u8_of (by omega), u8_of (by omega), u8_of (by omega)]
    exact ⟨w1.symm, w2.symm, w3.symm, w4.symm⟩
theorem begin_any (x : UInt8) (xs : List UInt8) (m : Nat) (h1 : 1 ≤ m) (h4 : m ≤ 4) : beginOk (x :: xs) m = true ↔ m ≤ (x :: xs).length ∧ formOf x = m ∧ contsOk (x :: xs) m = true ∧ sizeOfCp (cpAt (x :: xs) m) = m := by
  by_cases hl : m ≤ (x :: xs).length
  · rcases (by omega : m = 1 ∨ m = 2 ∨ m = 3 ∨ m = 4) with rfl | rfl | rfl | rfl
    · exact begin_one x xs
    · match xs, hl with
      | y :: xs, _ => exact begin_two x y xs
    · match xs, hl with
      | y :: z :: xs, _ => exact begin_three x y z xs
    · match xs, hl with
      | y :: z :: u :: xs, _ => exact begin_four x y z u xs
  · constructor
    · intro h; exact (hl (beginOk_len h)).elim
    · intro h; exact (hl h.1).elim
theorem formOf_le (x : UInt8) : formOf x ≤ 4 := by
  unfold formOf
  split
  · omega
  · split
    · omega
    · split
      · omega
      · split <;> omega
/-- The program's and the reference's code point at a place are one. -/
theorem next_begin {b : List UInt8} (h : b ≠ []) : nextN b = beginOf b := by
  match b, h with
  | x :: xs, _ =>
    have hno : ∀ m, 1 ≤ m → m ≤ 4 → formOf x ≠ m → beginOk (x :: xs) m = false := fun m a1 a2 a3 => by
      cases hb : beginOk (x :: xs) m with
      | false => rfl
      | true => exact (a3 ((begin_any x xs m a1 a2).1 hb).2.1).elim
    have h4 := formOf_le x
    unfold nextN
    dsimp only [List.headD_cons]
    by_cases h0 : formOf x = 0 ∨ (x :: xs).length < formOf x
    · rw [if_pos h0]
      refine (beginOf_no fun m a1 a2 => ?_).symm
      by_cases e : formOf x = m
      · cases hb : beginOk (x :: xs) m with
        | false => rfl
        | true => have := ((begin_any x xs m a1 a2).1 hb).1; omega
      · exact hno m a1 a2 e
    · rw [if_neg h0]
      have hb := begin_any x xs (formOf x) (by omega) h4
      cases hk : beginOk (x :: xs) (formOf x) with
      | true =>
        obtain ⟨_, _, b1, b2⟩ := hb.1 hk
        rw [if_neg (by rw [b1]; decide), if_neg (by omega)]
        exact (beginOf_ok (by omega) h4 hk fun m a1 a2 => hno m a1 (by omega) (by omega)).symm
      | false =>
        have e : beginOf (x :: xs) = (0, 0) := beginOf_no fun m a1 a2 => by
          by_cases e : formOf x = m
          · rw [← e]; exact hk
          · exact hno m a1 a2 e
        rw [e]
        by_cases hc : contsOk (x :: xs) (formOf x) = false
        · rw [if_pos hc]
        · rw [if_neg hc]
          by_cases hs : sizeOfCp (cpAt (x :: xs) (formOf x)) ≠ formOf x
          · rw [if_pos hs]
          · exfalso
            have := hb.2 ⟨by omega, rfl, by cases h : contsOk (x :: xs) (formOf x) with
              | true => rfl
              | false => exact (hc h).elim, by omega⟩
            rw [hk] at this; cases this
end Go.Dav

namespace Go.Proofs.YtmcmknndhppljaaDoor
set_option linter.unusedVariables false
set_option linter.unusedSimpArgs false
open Go.RowKit Go.Dav
attribute [local go_sem] Gives ite_val ite_val_true

theorem Tryd_cpSize (c : Nat) (w : World) : Calls Tryd.prog 110 #[.int .i64 (c : Int)] w fun e w' => e = .returned (.int .i64 ((sizeOfCp c : Nat) : Int)) ∧ Below w.heap.size w w' := by
  obtain ⟨r, hr⟩ : ∃ r, sizeOfCp c = r := ⟨_, rfl⟩
  rw [hr]
  have HR := Lib.hid hr
  have g0 : ¬ (c : Int) < 0 := by omega
  clear hr
  by_cases h1 : c ≤ 1114111
  · have g1 : ¬ (1114111 : Int) < (c : Int) := by omega
    by_cases h2 : 55296 ≤ c
    · have g2 : (55296 : Int) ≤ (c : Int) := by omega
      by_cases h3 : c ≤ 57343
      · have g3 : (c : Int) ≤ 57343 := by omega
        have e : r = 0 := by rw [← HR.out]; simp [sizeOfCp, isCp, h2, h3]
        clear h1 h2 h3 HR
        subst e
        go_enter Tryd.func110, Tryd.ntmps110
        go_wp2
        go_ret
        exact ⟨rfl, (by repeat (first | (with_reducible exact Below.refl _ _) | (with_reducible exact Below.refl _ _) | (with_reducible refine Below.setCell ?_ (by first | omega | (simp; done) | (simp; omega)) _) | (with_reducible refine Below.alloc ?_ (by first | omega | (simp; done) | (simp; omega)) _) | (with_reducible refine Below.drew ?_) | (with_reducible refine below_drewN ?_ _)))⟩
      · have g3 : ¬ (c : Int) ≤ 57343 := by omega
        have e : r = if c < 65536 then 3 else 4 := by rw [← HR.out]; unfold sizeOfCp; rw [if_pos (by simp [isCp, h1, h3]), cpBytes_size, if_neg (by omega), if_neg (by omega)]
        have g4 : ¬ (c : Int) < 128 := by omega
        have g5 : ¬ (c : Int) < 2048 := by omega
        by_cases h4 : c < 65536
        · have g6 : (c : Int) < 65536 := by omega
          rw [if_pos h4] at e
          clear h1 h2 h3 h4 HR
          subst e
          go_enter Tryd.func110, Tryd.ntmps110
          go_wp2
          go_ret
          exact ⟨rfl, (by repeat (first | (with_reducible exact Below.refl _ _) | (with_reducible exact Below.refl _ _) | (with_reducible refine Below.setCell ?_ (by first | omega | (simp; done) | (simp; omega)) _) | (with_reducible refine Below.alloc ?_ (by first | omega | (simp; done) | (simp; omega)) _) | (with_reducible refine Below.drew ?_) | (with_reducible refine below_drewN ?_ _)))⟩
        · have g6 : ¬ (c : Int) < 65536 := by omega
          rw [if_neg h4] at e
          clear h1 h2 h3 h4 HR
          subst e
          go_enter Tryd.func110, Tryd.ntmps110
          go_wp2
          go_ret
          exact ⟨rfl, (by repeat (first | (with_reducible exact Below.refl _ _) | (with_reducible exact Below.refl _ _) | (with_reducible refine Below.setCell ?_ (by first | omega | (simp; done) | (simp; omega)) _) | (with_reducible refine Below.alloc ?_ (by first | omega | (simp; done) | (simp; omega)) _) | (with_reducible refine Below.drew ?_) | (with_reducible refine below_drewN ?_ _)))⟩
    · have g2 : ¬ (55296 : Int) ≤ (c : Int) := by omega
      have g6 : (c : Int) < 65536 := by omega
      have e : r = if c < 128 then 1 else if c < 2048 then 2 else 3 := by rw [← HR.out]; unfold sizeOfCp; rw [if_pos (by simp [isCp, h1, h2]), cpBytes_size, if_pos (show c < 65536 by omega)]
      by_cases h4 : c < 128
      · have g4 : (c : Int) < 128 := by omega
        rw [if_pos h4] at e
        clear h1 h2 h4 HR
        subst e
        go_enter Tryd.func110, Tryd.ntmps110
        go_wp2
        go_ret
        exact ⟨rfl, (by repeat (first | (with_reducible exact Below.refl _ _) | (with_reducible exact Below.refl _ _) | (with_reducible refine Below.setCell ?_ (by first | omega | (simp; done) | (simp; omega)) _) | (with_reducible refine Below.alloc ?_ (by first | omega | (simp; done) | (simp; omega)) _) | (with_reducible refine Below.drew ?_) | (with_reducible refine below_drewN ?_ _)))⟩
      · have g4 : ¬ (c : Int) < 128 := by omega
        rw [if_neg h4] at e
        by_cases h5 : c < 2048
        · have g5 : (c : Int) < 2048 := by omega
          rw [if_pos h5] at e
          clear h1 h2 h4 h5 HR
          subst e
          go_enter Tryd.func110, Tryd.ntmps110
          go_wp2
          go_ret
          exact ⟨rfl, (by repeat (first | (with_reducible exact Below.refl _ _) | (with_reducible exact Below.refl _ _) | (with_reducible refine Below.setCell ?_ (by first | omega | (simp; done) | (simp; omega)) _) | (with_reducible refine Below.alloc ?_ (by first | omega | (simp; done) | (simp; omega)) _) | (with_reducible refine Below.drew ?_) | (with_reducible refine below_drewN ?_ _)))⟩
        · have g5 : ¬ (c : Int) < 2048 := by omega
          rw [if_neg h5] at e
          clear h1 h2 h4 h5 HR
          subst e
          go_enter Tryd.func110, Tryd.ntmps110
          go_wp2
          go_ret
          exact ⟨rfl, (by repeat (first | (with_reducible exact Below.refl _ _) | (with_reducible exact Below.refl _ _) | (with_reducible refine Below.setCell ?_ (by first | omega | (simp; done) | (simp; omega)) _) | (with_reducible refine Below.alloc ?_ (by first | omega | (simp; done) | (simp; omega)) _) | (with_reducible refine Below.drew ?_) | (with_reducible refine below_drewN ?_ _)))⟩
  · have g1 : (1114111 : Int) < (c : Int) := by omega
    have e : r = 0 := by rw [← HR.out]; simp [sizeOfCp, isCp, h1]
    clear h1 HR
    subst e
    go_enter Tryd.func110, Tryd.ntmps110
    go_wp2
    go_ret
    exact ⟨rfl, (by repeat (first | (with_reducible exact Below.refl _ _) | (with_reducible exact Below.refl _ _) | (with_reducible refine Below.setCell ?_ (by first | omega | (simp; done) | (simp; omega)) _) | (with_reducible refine Below.alloc ?_ (by first | omega | (simp; done) | (simp; omega)) _) | (with_reducible refine Below.drew ?_) | (with_reducible refine below_drewN ?_ _)))⟩
end Go.Proofs.YtmcmknndhppljaaDoor

namespace Go.Dav
set_option linter.unusedVariables false
set_option linter.unusedSimpArgs false
open Go Go.RowKit
/-- The forms, by their sizes. -/
def formsL : List Value := [.int .i64 0, .int .i64 0, .int .i64 7, .int .i64 0, .int .i64 5, .int .i64 192, .int .i64 4, .int .i64 224, .int .i64 3, .int .i64 240]
/-- What a package-level variable holds. -/
def GlobAt (W : World) (p : Nat) (cs : List Value) (_ : TypeId) : Prop := ∃ u fr, W.heap[p]? = some (.cells cs.toArray u fr)
theorem GlobAt.lt {W : World} {p : Nat} {cs : List Value} {t : TypeId} (h : GlobAt W p cs t) : p < W.heap.size := by
  obtain ⟨u, fr, h⟩ := h
  exact (Array.getElem?_eq_some_iff.1 h).1
theorem GlobAt.cells {W : World} {p : Nat} {cs : List Value} {t : TypeId} (h : GlobAt W p cs t) : ∀ i, W.cell? ⟨p, i, none⟩ = cs[i]? := fun i => by
  obtain ⟨u, fr, h⟩ := h
  simp [World.cell?, h]
theorem GlobAt.ext {W W' : World} {p : Nat} {cs : List Value} {t : TypeId} (h : GlobAt W p cs t) (hb : Below W.heap.size W W') : GlobAt W' p cs t := by
  have hl := h.lt
  obtain ⟨u, fr, h⟩ := h
  exact ⟨u, fr, (hb.block p hl).trans h⟩
end Go.Dav
namespace Go.Proofs.YtmcmknndhppljaaDoor
set_option linter.unusedVariables false
set_option linter.unusedSimpArgs false
open Go.RowKit Go.Dav
attribute [local go_sem] Gives ite_val ite_val_true

theorem Tryd_forms (w : World) : Calls Tryd.prog 114 #[] w fun e w' => e = .returned (.agg #[.int .i64 0, .int .i64 0, .int .i64 7, .int .i64 0, .int .i64 5, .int .i64 192, .int .i64 4, .int .i64 224, .int .i64 3, .int .i64 240]) ∧ Below w.heap.size w w' := by
  go_enter Tryd.func114, Tryd.ntmps114
  go_wp2
  refine bodyPost_ret (v := .agg #[.int .i64 0, .int .i64 0, .int .i64 7, .int .i64 0, .int .i64 5, .int .i64 192, .int .i64 4, .int .i64 224, .int .i64 3, .int .i64 240]) (by simp [results, Tryd.results114, go_sem]) rfl ⟨rfl, ?_⟩
  exact (by repeat (first | (with_reducible exact Below.refl _ _) | (with_reducible exact Below.refl _ _) | (with_reducible refine Below.setCell ?_ (by first | omega | (simp; done) | (simp; omega)) _) | (with_reducible refine Below.alloc ?_ (by first | omega | (simp; done) | (simp; omega)) _) | (with_reducible refine Below.drew ?_) | (with_reducible refine below_drewN ?_ _)))
end Go.Proofs.YtmcmknndhppljaaDoor
