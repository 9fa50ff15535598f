/-
  The reference of layer 1: Is, Bytes, Starts, walked.
-/
import Derived.Test.YtdebmifjfemcjaaFilD
import Derived.Test.YtdebmifjfemcjaaRow
import Derived.Test.YtdebmifjfemcjaaProg
import Derived.WalkKit
import Derived.Lib.Hide
import Derived.BigQuiet
namespace Go.Dav
set_option linter.unusedVariables false
set_option linter.unusedSimpArgs false
open Go Go.RowKit
/-- Is a number a code point? -/
def isCp (c : Nat) : Bool := decide (c ≤ 1114111) && !(decide (55296 ≤ c) && decide (c ≤ 57343))
/-- A code point's bytes. -/
def cpBytes (c : Nat) : List UInt8 :=
  if c < 128 then [UInt8.ofNat c]
  else if c < 2048 then [UInt8.ofNat (192 + c / 64), UInt8.ofNat (128 + c % 64)]
  else if c < 65536 then [UInt8.ofNat (224 + c / 4096), UInt8.ofNat (128 + c / 64 % 64), UInt8.ofNat (128 + c % 64)]
  else [UInt8.ofNat (240 + c / 262144), UInt8.ofNat (128 + c / 4096 % 64), UInt8.ofNat (128 + c / 64 % 64), UInt8.ofNat (128 + c % 64)]
/-- Do bytes begin with others? -/
def startsB (b x : List UInt8) : Bool := decide (x.length ≤ b.length ∧ b.take x.length = x)
theorem cpBytes_len (c : Nat) : 1 ≤ (cpBytes c).length ∧ (cpBytes c).length ≤ 4 := by
  unfold cpBytes
  split
  · simp
  · split
    · simp
    · split <;> simp
theorem blk_bytes {W : World} {p n : Nat} {l : List UInt8} {t : TypeId} (h : Blk W p (u8s l) t) (hn : l.length = n) (hm : n ≤ 140737488355328) : BytesAt W (some ⟨p, 0, none⟩) n n l :=
  ⟨hn, Nat.le_refl _, by unfold maxLen; omega, hm, fun k x hk => ⟨p, 0, rfl, h.lt, by rw [Nat.zero_add]; exact h.cell k (u8s_get hk)⟩, fun e => by cases e⟩
/-- Bytes in a block of their own. -/
def OwnB (B : Nat) (l : List UInt8) (e : Ending) (w' : World) : Prop := ∃ p, B ≤ p ∧ e = .returned (.slice (some ⟨p, 0, none⟩) l.length l.length) ∧ BytesAt w' (some ⟨p, 0, none⟩) l.length l.length l
end Go.Dav
namespace Go.Proofs.Ytdebmifjfemcjaa
set_option linter.unusedVariables false
set_option linter.unusedSimpArgs false
open Go.RowKit Go.Dav
attribute [local go_sem] Gives ite_val ite_val_true

theorem Try_rIs (c : Nat) (w : World) : Calls Try.prog 57 #[.int .i64 (c : Int)] w fun e w' => e = .returned (.bool (isCp c)) ∧ Below w.heap.size w w' := by
  obtain ⟨r, hr⟩ : ∃ r, isCp c = r := ⟨_, rfl⟩
  rw [hr]
  have HR := Lib.hid hr
  clear hr
  by_cases h1 : c ≤ 1114111
  · by_cases h2 : 55296 ≤ c
    · by_cases h3 : c ≤ 57343
      · have g1 : (c : Int) ≤ 1114111 := by omega
        have g2 : (55296 : Int) ≤ (c : Int) := by omega
        have g3 : (c : Int) ≤ 57343 := by omega
        have g0 : (0 : Int) ≤ (c : Int) := by omega
        have e : r = false := by rw [← HR.out]; simp [isCp, h2, h3]
        clear h1 h2 h3 HR
        subst e
        go_enter Try.func57, Try.ntmps57
        go_wp2
        go_ret
        exact ⟨rfl, (by repeat (first | (with_reducible exact Below.refl _ _) | (with_reducible exact Below.refl _ _) | (with_reducible refine Below.setCell ?_ (by first | omega | (simp; done) | (simp; omega)) _) | (with_reducible refine Below.alloc ?_ (by first | omega | (simp; done) | (simp; omega)) _) | (with_reducible refine Below.drew ?_) | (with_reducible refine below_drewN ?_ _)))⟩
      · have g1 : (c : Int) ≤ 1114111 := by omega
        have g2 : (55296 : Int) ≤ (c : Int) := by omega
        have g3 : ¬ (c : Int) ≤ 57343 := by omega
        have g0 : (0 : Int) ≤ (c : Int) := by omega
        have e : r = true := by rw [← HR.out]; simp [isCp, h1, h3]
        clear h1 h2 h3 HR
        subst e
        go_enter Try.func57, Try.ntmps57
        go_wp2
        go_ret
        exact ⟨rfl, (by repeat (first | (with_reducible exact Below.refl _ _) | (with_reducible exact Below.refl _ _) | (with_reducible refine Below.setCell ?_ (by first | omega | (simp; done) | (simp; omega)) _) | (with_reducible refine Below.alloc ?_ (by first | omega | (simp; done) | (simp; omega)) _) | (with_reducible refine Below.drew ?_) | (with_reducible refine below_drewN ?_ _)))⟩
    · have g1 : (c : Int) ≤ 1114111 := by omega
      have g2 : ¬ (55296 : Int) ≤ (c : Int) := by omega
      have g0 : (0 : Int) ≤ (c : Int) := by omega
      have e : r = true := by rw [← HR.out]; simp [isCp, h1, h2]
      clear h1 h2 HR
      subst e
      go_enter Try.func57, Try.ntmps57
      go_wp2
      go_ret
      exact ⟨rfl, (by repeat (first | (with_reducible exact Below.refl _ _) | (with_reducible exact Below.refl _ _) | (with_reducible refine Below.setCell ?_ (by first | omega | (simp; done) | (simp; omega)) _) | (with_reducible refine Below.alloc ?_ (by first | omega | (simp; done) | (simp; omega)) _) | (with_reducible refine Below.drew ?_) | (with_reducible refine below_drewN ?_ _)))⟩
  · have g1 : ¬ (c : Int) ≤ 1114111 := by omega
    have g0 : (0 : Int) ≤ (c : Int) := by omega
    have e : r = false := by rw [← HR.out]; simp [isCp, h1]
    clear h1 HR
    subst e
    go_enter Try.func57, Try.ntmps57
    go_wp2
    go_ret
    exact ⟨rfl, (by repeat (first | (with_reducible exact Below.refl _ _) | (with_reducible exact Below.refl _ _) | (with_reducible refine Below.setCell ?_ (by first | omega | (simp; done) | (simp; omega)) _) | (with_reducible refine Below.alloc ?_ (by first | omega | (simp; done) | (simp; omega)) _) | (with_reducible refine Below.drew ?_) | (with_reducible refine below_drewN ?_ _)))⟩

set_option maxRecDepth 8000 in
set_option maxHeartbeats 2000000 in
theorem Try_rBytes (c : Nat) (w : World) (hc : c ≤ 1114111) : Calls Try.prog 58 #[.int .i64 (c : Int)] w fun e w' => OwnB w.heap.size (cpBytes c) e w' ∧ Below w.heap.size w w' := by
  obtain ⟨l, hl⟩ : ∃ l, cpBytes c = l := ⟨_, rfl⟩
  rw [hl]
  have HL := Lib.hid hl
  have HC := Lib.hid hc
  clear hl hc
  by_cases h1 : c < 128
  · have g1 : (c : Int) < 128 := by omega
    have hl : l = [UInt8.ofNat c] := by rw [← HL.out]; unfold cpBytes; rw [if_pos h1]
    have HU := Lib.hid (show [Value.int .u8 (c : Int)] = u8s l by rw [hl]; simp only [u8s, List.map_cons, List.map_nil, UInt8.toNat_ofNat', List.cons.injEq, Value.int.injEq, and_true, true_and]; omega)
    have HN := Lib.hid (show l.length = 1 by rw [hl]; rfl)
    clear h1 HL hl
    go_enter Try.func58, Try.ntmps58
    go_wp2
    go_ret
    rw [HU.out]
    refine ⟨⟨_, Nat.le_refl _, by rw [HN.out]; rfl, blk_bytes (Blk.new w (u8s l) 5) rfl (by rw [HN.out]; omega)⟩, (by repeat (first | (with_reducible exact Below.refl _ _) | (with_reducible exact Below.refl _ _) | (with_reducible refine Below.setCell ?_ (by first | omega | (simp; done) | (simp; omega)) _) | (with_reducible refine Below.alloc ?_ (by first | omega | (simp; done) | (simp; omega)) _) | (with_reducible refine Below.drew ?_) | (with_reducible refine below_drewN ?_ _)))⟩
  · have g1 : ¬ (c : Int) < 128 := by omega
    by_cases h2 : c < 2048
    · have g2 : (c : Int) < 2048 := by omega
      have hl : l = [UInt8.ofNat (192 + c / 64), UInt8.ofNat (128 + c % 64)] := by rw [← HL.out]; unfold cpBytes; rw [if_neg h1, if_pos h2]
      have HU := Lib.hid (show [Value.int .u8 (192 + (c : Int) / 64), Value.int .u8 (128 + (c : Int) % 64)] = u8s l by rw [hl]; simp only [u8s, List.map_cons, List.map_nil, UInt8.toNat_ofNat', List.cons.injEq, Value.int.injEq, and_true, true_and]; omega)
      have HN := Lib.hid (show l.length = 2 by rw [hl]; rfl)
      clear h1 h2 HL hl
      go_enter Try.func58, Try.ntmps58
      go_wp2
      go_ret
      rw [HU.out]
      refine ⟨⟨_, Nat.le_refl _, by rw [HN.out]; rfl, blk_bytes (Blk.new w (u8s l) 5) rfl (by rw [HN.out]; omega)⟩, (by repeat (first | (with_reducible exact Below.refl _ _) | (with_reducible exact Below.refl _ _) | (with_reducible refine Below.setCell ?_ (by first | omega | (simp; done) | (simp; omega)) _) | (with_reducible refine Below.alloc ?_ (by first | omega | (simp; done) | (simp; omega)) _) | (with_reducible refine Below.drew ?_) | (with_reducible refine below_drewN ?_ _)))⟩
    · have g2 : ¬ (c : Int) < 2048 := by omega
      by_cases h3 : c < 65536
      · have g3 : (c : Int) < 65536 := by omega
        have hl : l = [UInt8.ofNat (224 + c / 4096), UInt8.ofNat (128 + c / 64 % 64), UInt8.ofNat (128 + c % 64)] := by rw [← HL.out]; unfold cpBytes; rw [if_neg h1, if_neg h2, if_pos h3]
        have HU := Lib.hid (show [Value.int .u8 (224 + (c : Int) / 4096), Value.int .u8 (128 + (c : Int) / 64 % 64), Value.int .u8 (128 + (c : Int) % 64)] = u8s l by rw [hl]; simp only [u8s, List.map_cons, List.map_nil, UInt8.toNat_ofNat', List.cons.injEq, Value.int.injEq, and_true, true_and]; omega)
        have HN := Lib.hid (show l.length = 3 by rw [hl]; rfl)
        clear h1 h2 h3 HL hl
        go_enter Try.func58, Try.ntmps58
        go_wp2
        go_ret
        rw [HU.out]
        refine ⟨⟨_, Nat.le_refl _, by rw [HN.out]; rfl, blk_bytes (Blk.new w (u8s l) 5) rfl (by rw [HN.out]; omega)⟩, (by repeat (first | (with_reducible exact Below.refl _ _) | (with_reducible exact Below.refl _ _) | (with_reducible refine Below.setCell ?_ (by first | omega | (simp; done) | (simp; omega)) _) | (with_reducible refine Below.alloc ?_ (by first | omega | (simp; done) | (simp; omega)) _) | (with_reducible refine Below.drew ?_) | (with_reducible refine below_drewN ?_ _)))⟩
      · have g3 : ¬ (c : Int) < 65536 := by omega
        have hl : l = [UInt8.ofNat (240 + c / 262144), UInt8.ofNat (128 + c / 4096 % 64), UInt8.ofNat (128 + c / 64 % 64), UInt8.ofNat (128 + c % 64)] := by rw [← HL.out]; unfold cpBytes; rw [if_neg h1, if_neg h2, if_neg h3]
        have HU := Lib.hid (show [Value.int .u8 (240 + (c : Int) / 262144), Value.int .u8 (128 + (c : Int) / 4096 % 64), Value.int .u8 (128 + (c : Int) / 64 % 64), Value.int .u8 (128 + (c : Int) % 64)] = u8s l by rw [hl]; have := HC.out; simp only [u8s, List.map_cons, List.map_nil, UInt8.toNat_ofNat', List.cons.injEq, Value.int.injEq, and_true, true_and]; omega)
        have HN := Lib.hid (show l.length = 4 by rw [hl]; rfl)
        have hc := HC.out
        clear h1 h2 h3 HL hl
        go_enter Try.func58, Try.ntmps58
        go_wp2
        go_ret
        rw [HU.out]
        refine ⟨⟨_, Nat.le_refl _, by rw [HN.out]; rfl, blk_bytes (Blk.new w (u8s l) 5) rfl (by rw [HN.out]; omega)⟩, (by repeat (first | (with_reducible exact Below.refl _ _) | (with_reducible exact Below.refl _ _) | (with_reducible refine Below.setCell ?_ (by first | omega | (simp; done) | (simp; omega)) _) | (with_reducible refine Below.alloc ?_ (by first | omega | (simp; done) | (simp; omega)) _) | (with_reducible refine Below.drew ?_) | (with_reducible refine below_drewN ?_ _)))⟩

theorem startsB_zero (b : List UInt8) (x : List UInt8) : startsB b x = true ↔ x.length ≤ b.length ∧ ∀ i, i < x.length → b[i]? = x[i]? := by
  unfold startsB
  rw [decide_eq_true_eq]
  refine ⟨fun ⟨h1, h2⟩ => ⟨h1, fun i hi => ?_⟩, fun ⟨h1, h2⟩ => ⟨h1, ?_⟩⟩
  · conv => rhs; rw [← h2]
    rw [List.getElem?_take, if_pos hi]
  · apply List.ext_getElem?
    intro i
    rw [List.getElem?_take]
    by_cases hi : i < x.length
    · rw [if_pos hi]; exact h2 i hi
    · rw [if_neg hi, List.getElem?_eq_none (by omega)]

set_option maxRecDepth 8000 in
set_option maxHeartbeats 2000000 in
theorem Try_rStarts (ba xa : Option Addr) (bl bc xl xc : Nat) (b x : List UInt8) (w : World) (hb : BytesAt w ba bl bc b) (hx : BytesAt w xa xl xc x) :
    Calls Try.prog 59 #[.slice ba bl bc, .slice xa xl xc] w fun e w' => e = .returned (.bool (startsB b x)) ∧ Below w.heap.size w w' := by
  have HB := Lib.hid hb
  have HX := Lib.hid hx
  obtain ⟨r, hr⟩ : ∃ r, startsB b x = r := ⟨_, rfl⟩
  rw [hr]
  have hbl := hb.hlen
  have hxl := hx.hlen
  have hbf := hb.hfew
  have hxf := hx.hfew
  by_cases h1 : bl < xl
  · have g1 : (bl : Int) < (xl : Int) := by omega
    have e : r = false := by rw [← hr]; unfold startsB; rw [decide_eq_false_iff_not]; omega
    clear hr hb hx hbl hxl hbf hxf h1
    subst e
    go_enter Try.func59, Try.ntmps59
    go_wp2
    go_ret
    exact ⟨rfl, (by repeat (first | (with_reducible exact Below.refl _ _) | (with_reducible exact Below.refl _ _) | (with_reducible refine Below.setCell ?_ (by first | omega | (simp; done) | (simp; omega)) _) | (with_reducible refine Below.alloc ?_ (by first | omega | (simp; done) | (simp; omega)) _) | (with_reducible refine Below.drew ?_) | (with_reducible refine below_drewN ?_ _)))⟩
  · have g1 : ¬ (bl : Int) < (xl : Int) := by omega
    have HR := Lib.hid hr
    clear hr hb hx
    go_enter Try.func59, Try.ntmps59
    go_wp2_with fail
    go_loopw [5] (fun ix wr => ∃ i : Nat, i ≤ xl ∧ ix = .int .i64 (i : Int) ∧ Below w.heap.size w wr ∧ ∀ j, j < i → b[j]? = x[j]?) (fun ix _ => xl - (intOf ix).toNat)
    case atStart => exact ⟨0, Nat.zero_le _, by go_num, Below.refl _ _, fun j h => by omega⟩
    case round =>
      obtain ⟨i, hi, rfl, hbel, hall⟩ := hrel
      have HBE := Lib.hid hbel
      clear hbel
      by_cases hlt : i < xl
      · obtain ⟨u, hu⟩ : ∃ u, b[i]? = some u := ⟨_, List.getElem?_eq_getElem (by omega)⟩
        obtain ⟨v, hv⟩ : ∃ v, x[i]? = some v := ⟨_, List.getElem?_eq_getElem (by omega)⟩
        obtain ⟨bb, bo, rfl, hbb, hbcell⟩ := (HB.out.ext HBE.out).hat i u hu
        obtain ⟨xb, xo, rfl, hxb, hxcell⟩ := (HX.out.ext HBE.out).hat i v hv
        have g2 : (i : Int) < (xl : Int) := by omega
        have g3 : (i : Int) < (bl : Int) := by omega
        have HI := Lib.hid (show i < xl from hlt)
        have HALL := Lib.hid hall
        have HUV := Lib.hid (And.intro hu hv)
        by_cases huv : u = v
        · subst huv
          clear hall hlt hi hu hv
          go_wp2_with fail
          go_quiet (fail)
          go_wp2_with fail
          go_roundw
          case rel => exact ⟨i + 1, HI.out, by go_num, by have h := HBE.out; exact (by repeat (first | (with_reducible exact Below.refl _ _) | (with_reducible exact Below.refl _ _) | (with_reducible refine Below.setCell ?_ (by first | omega | (simp; done) | (simp; omega)) _) | (with_reducible refine Below.alloc ?_ (by first | omega | (simp; done) | (simp; omega)) _) | (with_reducible refine Below.drew ?_) | (with_reducible refine below_drewN ?_ _) | (with_reducible refine Below.trans ?_ (h.mono (by first | omega | (simp; done) | (simp; omega)))))), fun j hj => by
            by_cases hji : j < i
            · exact HALL.out j hji
            · have : j = i := by omega
              rw [this, HUV.out.1, HUV.out.2]⟩
          case measure => have := HI.out; simp [intOf]; omega
        · have hne : ((u.toNat : Int) == (v.toNat : Int)) = false := by
            rw [beq_eq_false_iff_ne]; intro e; apply huv; exact UInt8.toNat_inj.1 (by omega)
          have e : r = false := by
            cases hrr : r with
            | false => rfl
            | true =>
              have h := ((startsB_zero b x).1 (HR.out.trans hrr)).2 i (by omega)
              rw [hu, hv] at h
              exact absurd (Option.some.inj h) huv
          clear hall hlt hi hu hv huv HR
          subst e
          go_wp2_with fail
          go_quiet (fail)
          go_wp2
          go_ret
          exact ⟨rfl, by have h := HBE.out; exact (by repeat (first | (with_reducible exact Below.refl _ _) | (with_reducible exact Below.refl _ _) | (with_reducible refine Below.setCell ?_ (by first | omega | (simp; done) | (simp; omega)) _) | (with_reducible refine Below.alloc ?_ (by first | omega | (simp; done) | (simp; omega)) _) | (with_reducible refine Below.drew ?_) | (with_reducible refine below_drewN ?_ _) | (with_reducible refine Below.trans ?_ (h.mono (by first | omega | (simp; done) | (simp; omega))))))⟩
      · have g2 : ¬ (i : Int) < (xl : Int) := by omega
        have e : r = true := by
          rw [← HR.out]; exact (startsB_zero b x).2 ⟨by omega, fun j hj => hall j (by omega)⟩
        clear hall hlt HR hi
        subst e
        go_wp2
        go_ret
        exact ⟨rfl, by have h := HBE.out; exact (by repeat (first | (with_reducible exact Below.refl _ _) | (with_reducible exact Below.refl _ _) | (with_reducible refine Below.setCell ?_ (by first | omega | (simp; done) | (simp; omega)) _) | (with_reducible refine Below.alloc ?_ (by first | omega | (simp; done) | (simp; omega)) _) | (with_reducible refine Below.drew ?_) | (with_reducible refine below_drewN ?_ _) | (with_reducible refine Below.trans ?_ (h.mono (by first | omega | (simp; done) | (simp; omega))))))⟩
end Go.Proofs.Ytdebmifjfemcjaa
