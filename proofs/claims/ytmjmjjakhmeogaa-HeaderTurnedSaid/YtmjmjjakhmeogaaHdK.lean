/-
  Layer 12: Find, its parts: what is looked for, in plain; the look at one block.
-/
import Derived.Test.YtmjmjjakhmeogaaHdJ
namespace Go.Dav
set_option linter.unusedVariables false
set_option linter.unusedSimpArgs false
open Go Go.RowKit
/-- Only the blocks that p names are written; new ones may have come. -/
structure OnlyS (p : Nat → Prop) (w w' : World) : Prop where
  os : w'.os = w.os
  tape : w'.tape = w.tape
  output : w'.output = w.output
  size : w.heap.size ≤ w'.heap.size
  block : ∀ k, k < w.heap.size → ¬ p k → w'.heap[k]? = w.heap[k]?
theorem OnlyS.refl (p : Nat → Prop) (w : World) : OnlyS p w w := ⟨rfl, rfl, rfl, Nat.le_refl _, fun _ _ _ => rfl⟩
theorem OnlyS.set {p : Nat → Prop} {w w' : World} (h : OnlyS p w w') (q i : Nat) (v : Value) (hq : p q) : OnlyS p w (w'.setCell ⟨q, i, none⟩ v) :=
  ⟨h.os, h.tape, h.output, by simpa using h.size, fun k hk hne => (Below.heap_setCell w' ⟨q, i, none⟩ v k (fun e => hne (by cases e; exact hq))).trans (h.block k hk hne)⟩
theorem OnlyS.ext {p : Nat → Prop} {w w' w'' : World} (h : OnlyS p w w') (hb : Below w'.heap.size w' w'') : OnlyS p w w'' :=
  ⟨hb.os.trans h.os, hb.tape.trans h.tape, hb.output.trans h.output, Nat.le_trans h.size hb.size, fun k hk hne => (hb.block k (Nat.lt_of_lt_of_le hk h.size)).trans (h.block k hk hne)⟩
theorem OnlyS.of_below {p : Nat → Prop} {w w' : World} (h : Below w.heap.size w w') : OnlyS p w w' := (OnlyS.refl p w).ext h
theorem OnlyS.below {p : Nat → Prop} {w w' : World} {n : Nat} (h : OnlyS p w w') (hn : n ≤ w.heap.size) (hp : ∀ k, p k → n ≤ k) : Below n w w' :=
  ⟨h.os, h.tape, h.output, h.size, fun k hk => h.block k (by omega) fun hpk => by have := hp k hpk; omega⟩
theorem Blk.onlyS {p : Nat → Prop} {W W' : World} {q : Nat} {cs : List Value} {t : TypeId} (h : Blk W q cs t) (k : OnlyS p W W') (hne : ¬ p q) : Blk W' q cs t := (k.block q h.lt hne).trans h

def sayG (l : List UInt8) : Nat := if isOf l = true then genOf l else 0
def sayA (l : List UInt8) : Nat := if isOf l = true then atOf l else 0
theorem saysOf_eq (l : List UInt8) : saysOf l = .tuple #[.agg #[.int .u64 (sayG l : Int), .int .i64 (sayA l : Int)], .bool (isOf l)] := rfl
theorem sayG_no {l : List UInt8} (h : isOf l = false) : sayG l = 0 := by unfold sayG; rw [h]; rfl
theorem sayA_no {l : List UInt8} (h : isOf l = false) : sayA l = 0 := by unfold sayA; rw [h]; rfl
def placeIf (b : Bool) (x y : Nat) : Nat := if b = true then x else y
/-- Block i of these bytes. -/
def blockAt (l : List UInt8) (i : Nat) : List UInt8 := (l.drop (i * 64)).take 64
/-- The last block of a header among the first n. -/
def lastIs (l : List UInt8) : Nat → Option Nat
  | 0 => none
  | n + 1 => if isOf (blockAt l n) = true then some n else lastIs l n
theorem lastIs_some {l : List UInt8} {n i : Nat} (h1 : i < n) (h2 : isOf (blockAt l i) = true) (h3 : ∀ j, i < j → j < n → isOf (blockAt l j) = false) : lastIs l n = some i := by
  induction n with
  | zero => omega
  | succ n ih =>
    unfold lastIs
    by_cases e : i = n
    · subst e; rw [if_pos h2]
    · rw [if_neg (by rw [h3 n (by omega) (by omega)]; decide)]
      exact ih (by omega) fun j hj hk => h3 j hj (by omega)
theorem lastIs_none {l : List UInt8} {n : Nat} (h : ∀ j, j < n → isOf (blockAt l j) = false) : lastIs l n = none := by
  induction n with
  | zero => rfl
  | succ n ih =>
    unfold lastIs
    rw [if_neg (by rw [h n (by omega)]; decide)]
    exact ih fun j hj => h j (by omega)
/-- What Find answers, of some bytes. -/
def findG (l : List UInt8) : Nat := match lastIs l (l.length / 64) with | some i => genOf (blockAt l i) | none => 0
def findA (l : List UInt8) : Nat := match lastIs l (l.length / 64) with | some i => atOf (blockAt l i) | none => 0
def findP (l : List UInt8) : Nat := match lastIs l (l.length / 64) with | some i => i * 64 | none => 0
def findF (l : List UInt8) : Bool := (lastIs l (l.length / 64)).isSome
def findOf (l : List UInt8) : Value := .tuple #[.agg #[.int .u64 (findG l : Int), .int .i64 (findA l : Int)], .int .i64 (findP l : Int), .bool (findF l)]
theorem find_some {l : List UInt8} {i : Nat} (h : lastIs l (l.length / 64) = some i) : findOf l = .tuple #[.agg #[.int .u64 (genOf (blockAt l i) : Int), .int .i64 (atOf (blockAt l i) : Int)], .int .i64 ((i * 64 : Nat) : Int), .bool true] := by
  simp [findOf, findG, findA, findP, findF, h]
theorem find_none {l : List UInt8} (h : lastIs l (l.length / 64) = none) : findOf l = .tuple #[.agg #[.int .u64 0, .int .i64 0], .int .i64 0, .bool false] := by
  simp [findOf, findG, findA, findP, findF, h]
theorem blockAt_len {l : List UInt8} {i : Nat} (h : i * 64 + 64 ≤ l.length) : (blockAt l i).length = 64 := by
  unfold blockAt; rw [List.length_take, List.length_drop]; omega
end Go.Dav
namespace Go.Proofs.Ytmjmjjakhmeogaa
set_option linter.unusedVariables false
set_option linter.unusedSimpArgs false
open Go.RowKit Go.Dav
attribute [local go_sem] Gives ite_val ite_val_true

theorem Try_enter71 (args : Array Value) (W : World) : (callFunc 71 args).run Try.prog W = .ok (Next.enter 71 args) W := by kernel_rfl
/-- h, found, place: what they hold. -/
structure TryLooked (ph pf pp : Nat) (g a : Nat) (f : Bool) (z : Nat) (w : World) : Prop where
  h : Blk w ph [.int .u64 (g : Int), .int .i64 (a : Int)] 56
  f : Blk w pf [.bool f] 4
  p : Blk w pp [.int .i64 (z : Int)] 3

set_option maxRecDepth 100000 in
set_option maxHeartbeats 8000000 in
theorem Try_look (l : List UInt8) (hl : l.length = 64) (at_ ph pf pp g a z : Nat) (f : Bool) (n1 : ph ≠ pf) (n2 : ph ≠ pp) (n3 : pf ≠ pp) (w : World) (hx : TryLooked ph pf pp g a f z w) :
    Calls Try.prog 71 #[.int .i64 (at_ : Int), .agg (u8s l).toArray, .pointer (some ⟨ph, 0, none⟩), .pointer (some ⟨pf, 0, none⟩), .pointer (some ⟨pp, 0, none⟩)] w fun e w' =>
      e = .returned (.bool (isOf l)) ∧ TryLooked ph pf pp (sayG l) (sayA l) (isOf l) (placeIf (isOf l) at_ z) w' ∧ OnlyS (fun k => k = ph ∨ k = pf ∨ k = pp) w w' := by
  have hb1 : Below w.heap.size w (w.alloc (.cells (u8s l).toArray 57)) := (by repeat (first | (with_reducible exact Below.refl _ _) | (with_reducible exact Below.refl _ _) | (with_reducible refine Below.setCell ?_ (by first | omega | (simp; done) | (simp; omega)) _) | (with_reducible refine Below.alloc ?_ (by first | omega | (simp; done) | (simp; omega)) _) | (with_reducible refine Below.drew ?_) | (with_reducible refine below_drewN ?_ _)))
  have hkb := Blk.new w (u8s l) 57
  have HKB := Lib.hid hkb
  have HX := Lib.hid hx
  have HL := Lib.hid hl
  have H1 := Lib.hid (hx.h.ext hb1)
  have H2 := Lib.hid (hx.f.ext hb1)
  have H3 := Lib.hid (hx.p.ext hb1)
  have HB1 := Lib.hid hb1
  clear hx hb1 hkb hl
  go_enter Try.func71, Try.ntmps71
  go_wp2_with (first | (refine wpList_load_row rfl 57 (.tmp 6) rfl w.heap.size rfl 57 (u8s l).toArray (0, 0) _ HKB.out Try.underlying57 rfl (Try_size64_of HL.out) ?_))
  refine (Try_Says l HL.out _).mono ?_; rintro e w2 ⟨rfl, hb2⟩
  have b1 := H1.out.ext hb2
  have b2 := H2.out.ext hb2
  have b3 := H3.out.ext hb2
  have q1 := b1.cells
  have q2 := b2.cells
  have q3 := b3.cells
  have m1 := b1.marks
  have m2 := b2.marks
  have m3 := b3.marks
  have l1 := b1.lt
  have l2 := b2.lt
  have l3 := b3.lt
  have on2 := OnlyS.of_below (p := fun k => k = ph ∨ k = pf ∨ k = pp) (HB1.out.trans (hb2.mono HB1.out.size))
  have HON := Lib.hid on2
  have B1 := Lib.hid b1
  have B2 := Lib.hid b2
  have B3 := Lib.hid b3
  rw [saysOf_eq]
  have n1' := Ne.symm n1
  have n2' := Ne.symm n2
  have n3' := Ne.symm n3
  clear hb2 b1 b2 b3 on2 H1 H2 H3 HB1
  cases hv : isOf l with
  | true =>
    have HV := Lib.hid hv
    clear hv
    go_wp2
    go_ret
    try rw [HV.out]
    refine ⟨rfl, ⟨?_, ?_, ?_⟩, ?_⟩
    · exact (((B1.out.set 0 _).set 1 _).other n1 _ _).other n2 _ _
    · exact (((B2.out.other n1' _ _).other n1' _ _).set 0 _).other n3 _ _
    · exact (((B3.out.other n2' _ _).other n2' _ _).other n3' _ _).set 0 _
    · exact (((HON.out.set ph 0 _ (.inl rfl)).set ph 1 _ (.inl rfl)).set pf 0 _ (.inr (.inl rfl))).set pp 0 _ (.inr (.inr rfl))
  | false =>
    have HV := Lib.hid hv
    clear hv
    go_wp2
    go_ret
    try rw [HV.out]
    refine ⟨rfl, ⟨?_, ?_, ?_⟩, ?_⟩
    · exact ((B1.out.set 0 _).set 1 _).other n1 _ _
    · exact (((B2.out.other n1' _ _).other n1' _ _).set 0 _)
    · exact (((B3.out.other n2' _ _).other n2' _ _).other n3' _ _)
    · exact (((HON.out.set ph 0 _ (.inl rfl)).set ph 1 _ (.inl rfl)).set pf 0 _ (.inr (.inl rfl)))
end Go.Proofs.Ytmjmjjakhmeogaa
