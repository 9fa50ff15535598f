/-
  Layer 14: the law's helpers: copies; facts of the node that wakes looks at.
  Layer 14: wakes, walked.
-/
import Derived.Test.YtfhhcpolicdfpaaNdM
import Derived.Test.YtfhhcpolicdfpaaNdN
import Derived.Test.YtfhhcpolicdfpaaNdO
import Derived.Lib.SlBytesConst
namespace Go.Dav
set_option linter.unusedVariables false
set_option linter.unusedSimpArgs false
open Go Go.RowKit
theorem plainA_of {W : World} {a : Option Addr} {n c : Nat} {l : List UInt8} (h : BytesAt W a n c l) (hl : l ≠ []) : plainA a := by
  cases l with
  | nil => exact absurd rfl hl
  | cons x l => obtain ⟨b, o, e, _⟩ := h.hat 0 x rfl; exact .inr ⟨b, o, e⟩
/-- Bytes are handed back, in new memory. -/
def GivesCopy (w : World) (x : List UInt8) (e : Ending) (w' : World) : Prop :=
  ∃ a n c, e = .returned (.slice a n c) ∧ BytesS w' (fun b => w.heap.size ≤ b) a n c x ∧ plainA a ∧ Below w.heap.size w w'
def wakeN : NodeD := ⟨true, [⟨[97], [], false, 0⟩, ⟨[98], [7], true, -1⟩], []⟩
def wakeB : List UInt8 := [1, 2, 1, 97, 0, 0, 0, 0, 0, 0, 0, 0, 0, 0, 1, 98, 1, 7, 1, 255, 255, 255, 255, 255, 255, 255, 255]
theorem wake_ok : nodeOk wakeN = true := by decide +kernel
theorem wake_bytes : nodeBytes wakeN = wakeB := by decide +kernel
theorem wake_place : placeN wakeN [97, 98] = (1, false) := by decide +kernel
theorem wake_red : (redN wakeN).2 = 0 ∧ (redN wakeN).1.c = 2 ∧ (redN wakeN).1.n = 1 := by decide +kernel
theorem wake_dec (a : Option Addr) (c : Nat) : decN ⟨a, 27, c, wakeB, true⟩ = wakeN ∧ decE ⟨a, 27, c, wakeB, true⟩ = 0 := by
  have h := dec_bytes (a := a) (c := c) wake_ok (⟨fun x hx => by simp [wakeN] at hx; rcases hx with rfl | rfl <;> (unfold I64'; decide), fun x hx => by simp [wakeN] at hx⟩ : nodeFine wakeN) rfl
  rw [wake_bytes] at h
  exact h.2
theorem wake_no (a : Option Addr) (c : Nat) : decE ⟨a, 2, c, [1, 0], true⟩ = 240 := by kernel_rfl
theorem wake_same : sameR wakeN wakeN = true := by decide +kernel
end Go.Dav
namespace Go.Proofs.Ytfhhcpolicdfpaa
set_option linter.unusedVariables false
set_option linter.unusedSimpArgs false
open Go.RowKit Go.Dav
attribute [local go_sem] Gives ite_val ite_val_true

theorem own_copy {w : World} {base e n : Nat} {v : Value} {l : List UInt8} (h : w.ownsRow base e 1 v n (u8s l)) (hn : n ≤ 140737488355328) : ∃ a c, v = .slice a n c ∧ BytesS w (fun b => base ≤ b) a n c l ∧ plainA a := by
  obtain ⟨a, c, h1, h2⟩ := own_bytes h hn
  refine ⟨a, c, h1, h2, ?_⟩
  rcases h.2 with ⟨h3, _⟩ | ⟨g, cap, cur, h3, _⟩
  · rw [h1] at h3; cases h3; exact .inl rfl
  · rw [h1] at h3; cases h3; exact .inr ⟨g, 0, rfl⟩
set_option maxHeartbeats 1000000 in
theorem Try_bClone (a : Option Addr) (al ac : Nat) (x : List UInt8) (S : Nat → Prop) (w : World) (hx : BytesS w S a al ac x) :
    Calls Try.prog 12 #[.slice a al ac] w (GivesCopy w x) := by
  cases a with
  | none =>
    have h0 := hx.at_.hnil rfl
    have h1 := hx.at_.hcap
    obtain rfl : al = 0 := by omega
    subst h0
    have hx0 : x = [] := List.length_eq_zero_iff.1 hx.at_.hlen
    subst hx0
    clear hx h1
    have knil := @Try_eqNil
    go_enter Try.func12, Try.ntmps12
    go_wp2
    go_ret
    exact ⟨none, 0, 0, rfl, BytesS.nil_, .inl rfl, (by repeat (first | (with_reducible exact Below.refl _ _) | (with_reducible exact Below.refl _ _) | (with_reducible refine Below.setCell ?_ (by first | omega | (simp; done) | (simp; omega)) _) | (with_reducible refine Below.alloc ?_ (by first | omega | (simp; done) | (simp; omega)) _) | (with_reducible refine Below.drew ?_) | (with_reducible refine below_drewN ?_ _)))⟩
  | some ad =>
    have hc := (hx.cells.ext ((Below.refl _ w).alloc (Nat.le_refl _) (.cells #[] 5)))
    have hf := hx.at_.hfew
    have HX := Lib.hid hc
    clear hx hc
    have knil := @Try_eqNil
    go_enter Try.func12, Try.ntmps12
    have hown := World.ownsRow_made (e := 5) (size := 1) w #[] 0 (Nat.le_refl _) (by unfold maxLen; omega) rfl
    go_wp2_with (at_builtin; refine wpList_append_rowS rfl (.tmp 5) (.tmp 6) 22 rfl Try_elemU8 w.heap.size _ 0 [] rfl hown S (some ad) al ac (u8s x) rfl HX.out (u8s_one x) (fun h => by cases h) (by unfold maxLen; omega) (by omega) (by simp) ?_; intro v' w1 hown1 hgrow)
    rw [Nat.zero_add, List.nil_append] at hown1
    obtain ⟨a', c', rfl, hB, hp⟩ := own_copy hown1 hf
    have hbel : Below w.heap.size w w1 := ((Below.refl _ w).alloc (Nat.le_refl _) _).grown hgrow (by simp) (fun k hk => (hown.lt k hk).1)
    have HP := Lib.hid hp
    clear hown1 hgrow hp
    go_wp2
    go_ret
    exact ⟨a', al, c', rfl, hB, HP.out, hbel⟩
end Go.Proofs.Ytfhhcpolicdfpaa

namespace Go.Dav
set_option linter.unusedVariables false
set_option linter.unusedSimpArgs false
open Go Go.RowKit
/-- A block known whole, some place of which bears a mark. -/
def BlkZ (W : World) (p : Nat) (cs : List Value) (t : TypeId) (z : Nat × Nat) : Prop := W.heap[p]? = some (.cells cs.toArray t z)
theorem BlkZ.lt {W : World} {p : Nat} {cs : List Value} {t : TypeId} {z : Nat × Nat} (h : BlkZ W p cs t z) : p < W.heap.size := (Array.getElem?_eq_some_iff.1 h).1
theorem BlkZ.cell {W : World} {p : Nat} {cs : List Value} {t : TypeId} {z : Nat × Nat} (h : BlkZ W p cs t z) (i : Nat) {v : Value} (hi : cs[i]? = some v) : W.cell? ⟨p, i, none⟩ = some v := by
  unfold BlkZ at h
  rw [World.cell?]
  simp only [h]
  simpa using hi
theorem BlkZ.new' (W : World) (cs : List Value) (t : TypeId) (z : Nat × Nat) {p : Nat} (h : W.heap.size = p) : BlkZ (W.alloc (.cells cs.toArray t z)) p cs t z := by
  subst h; unfold BlkZ; show (W.heap.push _)[W.heap.size]? = _; simp
theorem BlkZ.alloc {W : World} {p : Nat} {cs : List Value} {t : TypeId} {z : Nat × Nat} (h : BlkZ W p cs t z) (o : Obj) : BlkZ (W.alloc o) p cs t z := (Below.heap_alloc W o p h.lt).trans h
end Go.Dav
namespace Go.Proofs.Ytfhhcpolicdfpaa
set_option linter.unusedVariables false
set_option linter.unusedSimpArgs false
open Go.RowKit Go.Dav
attribute [local go_sem] Gives ite_val ite_val_true

set_option maxRecDepth 20000 in
set_option maxHeartbeats 16000000 in
theorem Try_wakes14 (w : World) : Calls Try.prog 11 #[] w fun e w' => e = .returned (.bool true) ∧ Below w.heap.size w w' := by
  obtain ⟨w1, hw1⟩ : ∃ w1, ((((w.alloc (.cells #[.int .u8 97] 5 (1, 2))).alloc (.cells #[.int .u8 98] 5 (1, 2))).alloc (.cells #[.int .u8 7] 5)).alloc (.cells #[.slice (some ⟨w.heap.size, 0, none⟩) 1 1, .slice none 0 0, .bool false, .int .i64 0, .slice (some ⟨w.heap.size + 1, 0, none⟩) 1 1, .slice (some ⟨w.heap.size + 1 + 1, 0, none⟩) 1 1, .bool true, .int .i64 (-1)] 56)).alloc (.cells #[.bool true, .slice (some ⟨w.heap.size + 1 + 1 + 1, 0, none⟩) 2 2, .slice none 0 0] 28) = w1 := ⟨_, rfl⟩
  have hb1 : Below w.heap.size w w1 := by rw [← hw1]; exact (by repeat (first | (with_reducible exact Below.refl _ _) | (with_reducible exact Below.refl _ _) | (with_reducible refine Below.setCell ?_ (by first | omega | (simp; done) | (simp; omega)) _) | (with_reducible refine Below.alloc ?_ (by first | omega | (simp; done) | (simp; omega)) _) | (with_reducible refine Below.drew ?_) | (with_reducible refine below_drewN ?_ _)))
  have hs1 : w1.heap.size = w.heap.size + 5 := by rw [← hw1]; simp
  have a0 : BlkZ w1 w.heap.size [.int .u8 97] 5 (1, 2) := by rw [← hw1]; exact ((((BlkZ.new' w [_] _ _ rfl).alloc _).alloc _).alloc _).alloc _
  have a1 : BlkZ w1 (w.heap.size + 1) [.int .u8 98] 5 (1, 2) := by rw [← hw1]; exact (((BlkZ.new' _ [_] _ _ (by simp)).alloc _).alloc _).alloc _
  have a2 : Blk w1 (w.heap.size + 1 + 1) [.int .u8 7] 5 := by rw [← hw1]; exact ((Blk.new' _ [_] _ (by simp)).alloc _).alloc _
  have a3 : Blk w1 (w.heap.size + 1 + 1 + 1) [.slice (some ⟨w.heap.size, 0, none⟩) 1 1, .slice none 0 0, .bool false, .int .i64 0, .slice (some ⟨w.heap.size + 1, 0, none⟩) 1 1, .slice (some ⟨w.heap.size + 1 + 1, 0, none⟩) 1 1, .bool true, .int .i64 (-1)] 56 := by rw [← hw1]; exact (Blk.new' _ [_, _, _, _, _, _, _, _] _ (by simp)).alloc _
  have a4 : Blk w1 (w.heap.size + 1 + 1 + 1 + 1) [.bool true, .slice (some ⟨w.heap.size + 1 + 1 + 1, 0, none⟩) 2 2, .slice none 0 0] 28 := by rw [← hw1]; exact Blk.new' _ [_, _, _] _ (by simp)
  have one : ∀ (p : Nat) (x : UInt8) (z : Nat × Nat), BlkZ w1 p [.int .u8 (x.toNat : Int)] 5 z → BytesS w1 (fun b => b < w1.heap.size) (some ⟨p, 0, none⟩) 1 1 [x] := fun p x z hp =>
    BytesS.of_cells (cells_one hp.lt hp.lt (hp.cell 0 rfl)) (Nat.le_refl _) (by unfold maxLen; omega) (by omega) (fun h => by cases h)
  have hN : NodeS w1 (fun b => b < w1.heap.size) (some ⟨w.heap.size + 1 + 1 + 1, 0, none⟩) 2 2 none 0 0 wakeN := by
    refine ⟨⟨rfl, Nat.le_refl _, by unfold maxLen; omega, by omega, fun k x hx => ?_, fun h => by cases h⟩, KidsS.nil_⟩
    match k, hx with
    | 0, hx =>
      cases hx
      exact ⟨_, 0, _, _, _, _, _, _, rfl, a3.lt, a3.lt, a3.cell 0 rfl, a3.cell 1 rfl, a3.cell 2 rfl, a3.cell 3 rfl, one _ 97 _ a0, BytesS.nil_, by unfold I64'; decide⟩
    | 1, hx =>
      cases hx
      exact ⟨_, 0, _, _, _, _, _, _, rfl, a3.lt, a3.lt, a3.cell 4 rfl, a3.cell 5 rfl, a3.cell 6 rfl, a3.cell 7 rfl, one _ 98 _ a1, one _ 7 (0, 0) a2, by unfold I64'; decide⟩
    | k + 2, hx => simp [wakeN] at hx
  have HN := Lib.hid hN
  have A4 := Lib.hid a4
  have HB1 := Lib.hid hb1
  have HS1 := Lib.hid hs1
  have henc : Calls Try.prog 14 #[.agg #[.bool true, .slice (some ⟨w.heap.size + 1 + 1 + 1, 0, none⟩) 2 2, .slice none 0 0]] w1 (GivesEnc w1 wakeN) := Try_Encode wakeN _ _ _ _ _ _ _ w1 hN (fun b h => h)
  have HE := Lib.hid henc
  have HW1 := Lib.hid hw1
  clear hw1 hN a0 a1 a2 a3 a4 one hb1 hs1 henc
  have hcv := fun (w : World) (C : Array Value) (n c : Nat) => Lib.run_convert_bytes_const (P := Try.prog) w 22 5 C n c Try.underlying22 Try.underlying5
  have hcv2 : (convert 22 22 (.slice (some ⟨w.heap.size + 1, 0, none⟩) 1 1)).run Try.prog ((w.alloc (.cells #[.int .u8 97] 5 (1, 2))).alloc (.cells #[.int .u8 98] 5)) = .ok (.slice (some ⟨w.heap.size + 1, 0, none⟩) 1 1) ((w.alloc (.cells #[.int .u8 97] 5 (1, 2))).alloc (.cells #[.int .u8 98] 5 (1, 2))) := by
    have h := hcv (w.alloc (.cells #[.int .u8 97] 5 (1, 2))) #[.int .u8 98] 1 1
    rw [World.size_alloc] at h
    exact h
  go_enter Try.func11, Try.ntmps11
  go_wp2_with fail
  rw [HW1.out]
  (with_reducible refine HE.out.mono ?_); rintro e w2 ⟨ba, bn, bc, rfl, hB2, hb2⟩
  have e0 : nodeE wakeN = 0 := nodeE_0 wake_ok
  rw [if_pos wake_ok, wake_bytes] at hB2
  have hbn : bn = 27 := hB2.at_.hlen.symm
  subst hbn
  have HBB := Lib.hid hB2.at_.s
  have HPA := Lib.hid (plainA_of hB2.at_ (by decide))
  have HB2 := Lib.hid (HB1.out.trans (hb2.mono HB1.out.size))
  have N2 := Lib.hid (HN.out.ext hb2)
  have A2 := Lib.hid (A4.out.ext hb2)
  have hred : Calls Try.prog 25 #[.agg #[.bool true, .slice (some ⟨w.heap.size + 1 + 1 + 1, 0, none⟩) 2 2, .slice none 0 0]] w2 (fun e w' => e = .returned (.tuple #[redV (redN wakeN).1, .int .i64 (redN wakeN).2]) ∧ Below w2.heap.size w2 w') := Try_nRed wakeN _ _ _ _ _ _ _ w2 N2.out
  obtain ⟨rr, hrr⟩ : ∃ r, redN wakeN = r := ⟨_, rfl⟩
  have hw := wake_red
  rw [hrr] at hw hred
  obtain ⟨⟨rc, rn, rs, rl, rm⟩, re⟩ := rr
  dsimp only at hw hred
  obtain ⟨rfl, rfl, rfl⟩ := hw
  unfold redV at hred
  dsimp only at hred
  have HR := Lib.hid hred
  clear hB2 hb2 hred hrr
  have c2 := A2.out.cells
  have l2 := A2.out.lt
  go_wp2_with fail
  (with_reducible refine HR.out.mono ?_); rintro e w3 ⟨rfl, hb3⟩
  have hb3' := HB2.out.trans (hb3.mono HB2.out.size)
  obtain ⟨w4, hw4⟩ : ∃ w4, w3.alloc (.cells #[.int .i64 2, .int .i64 1, .int .i64 (hi rs), .int .u64 (lo rs), .int .i64 rl, .int .i64 rm] 47) = w4 := ⟨_, rfl⟩
  have hb34 : Below w3.heap.size w3 w4 := by rw [← hw4]; exact (Below.refl _ _).alloc (Nat.le_refl _) _
  have HR4 := Lib.hid (show Blk w4 w3.heap.size [.int .i64 2, .int .i64 1, .int .i64 (hi rs), .int .u64 (lo rs), .int .i64 rl, .int .i64 rm] 47 by rw [← hw4]; exact Blk.new w3 _ _)
  have HB4 := Lib.hid (hb3'.trans (hb34.mono hb3'.size))
  have N4 := Lib.hid ((N2.out.ext hb3).ext hb34)
  have A44 := Lib.hid ((A2.out.ext hb3).ext hb34)
  have BB4 := Lib.hid ((HBB.out.ext hb3).ext hb34)
  have hkb : BlkZ (w4.alloc (.cells #[.int .u8 97, .int .u8 98] 5 (2, 3))) w4.heap.size [.int .u8 97, .int .u8 98] 5 (2, 3) := BlkZ.new' w4 [_, _] _ _ rfl
  have hkey : BytesAt (w4.alloc (.cells #[.int .u8 97, .int .u8 98] 5 (2, 3))) (some ⟨w4.heap.size, 0, none⟩) 2 2 [97, 98] :=
    (BytesS.of_cells (S := fun _ => True) (⟨rfl, fun k v hk => ⟨w4.heap.size, 0, rfl, hkb.lt, trivial, by rw [Nat.zero_add]; exact hkb.cell k hk⟩⟩ : CellsS _ _ _ 2 (u8s [97, 98])) (Nat.le_refl _) (by unfold maxLen; omega) (by omega) (fun h => by cases h)).at_
  have hpl : Calls Try.prog 23 #[.agg #[.bool true, .slice (some ⟨w.heap.size + 1 + 1 + 1, 0, none⟩) 2 2, .slice none 0 0], .slice (some ⟨w4.heap.size, 0, none⟩) 2 2] (w4.alloc (.cells #[.int .u8 97, .int .u8 98] 5 (2, 3))) (fun e w' => e = .returned (.tuple #[.int .i64 1, .bool false]) ∧ Below (w4.alloc (.cells #[.int .u8 97, .int .u8 98] 5 (2, 3))).heap.size (w4.alloc (.cells #[.int .u8 97, .int .u8 98] 5 (2, 3))) w') := by
    have h := Try_Place wakeN _ _ _ _ _ _ _ _ _ _ [97, 98] (w4.alloc (.cells #[.int .u8 97, .int .u8 98] 5 (2, 3))) (N4.out.ext ((Below.refl _ _).alloc (Nat.le_refl _) _)) hkey
    rw [wake_place] at h
    exact h
  have HPL := Lib.hid hpl
  have c3 := A44.out.cells
  have l3 := A44.out.lt
  have m3 := HR4.out.marks
  have d3 := HR4.out.cells
  have n3 := HR4.out.lt
  clear c2 l2 hb3 hb3' hb34 hkb hkey hpl
  go_wp2_with fail
  (with_reducible refine HPL.out.mono ?_); rintro e w5 ⟨rfl, hb5⟩
  have hb45 : Below w4.heap.size w4 w5 := ((Below.refl _ w4).alloc (Nat.le_refl _) _).trans (hb5.mono (by simp))
  have HB5 := Lib.hid (HB4.out.trans (hb45.mono HB4.out.size))
  have N5 := Lib.hid (N4.out.ext hb45)
  have A5 := Lib.hid (A44.out.ext hb45)
  have R5 := Lib.hid (HR4.out.ext hb45)
  have B5 := Lib.hid (BB4.out.ext hb45)
  have hdec := Try_Decode (fun b => b < w5.heap.size) ba 27 bc wakeB w5 B5.out.at_.s HPA.out (fun b h => h)
  rw [(wake_dec ba bc).1, (wake_dec ba bc).2] at hdec
  have HD := Lib.hid hdec
  clear hb5 hb45 hdec c3 l3 m3 d3 n3 hw4
  go_wp2_with fail
  (with_reducible refine HD.out.mono ?_); rintro e w6 ⟨ia, il, ic, ja, jl, jc, rfl, hN6, hb6⟩
  have hwl : wakeN.leaf = true := rfl
  rw [hwl]
  obtain ⟨w7, hw7⟩ : ∃ w7, w6.alloc (.cells #[.bool true, .slice ia il ic, .slice ja jl jc] 28) = w7 := ⟨_, rfl⟩
  have hb67 : Below w6.heap.size w6 w7 := by rw [← hw7]; exact (Below.refl _ _).alloc (Nat.le_refl _) _
  have hb57 := hb6.trans (hb67.mono hb6.size)
  have K7 := Lib.hid (show Blk w7 w6.heap.size [.bool true, .slice ia il ic, .slice ja jl jc] 28 by rw [← hw7]; exact Blk.new w6 _ _)
  have M7 := Lib.hid (hN6.ext hb67)
  have HB7 := Lib.hid (HB5.out.trans (hb57.mono HB5.out.size))
  have N7 := Lib.hid (N5.out.ext hb57)
  have A7 := Lib.hid (A5.out.ext hb57)
  have R7 := Lib.hid (R5.out.ext hb57)
  have B7 := Lib.hid (B5.out.ext hb57)
  have hqb : Blk (w7.alloc (.cells #[.int .u8 1, .int .u8 0] 5)) w7.heap.size [.int .u8 1, .int .u8 0] 5 := Blk.new w7 _ _
  have hqk : BytesS (w7.alloc (.cells #[.int .u8 1, .int .u8 0] 5)) (fun b => b < (w7.alloc (.cells #[.int .u8 1, .int .u8 0] 5)).heap.size) (some ⟨w7.heap.size, 0, none⟩) 2 2 [1, 0] :=
    BytesS.of_cells (⟨rfl, fun k v hk => ⟨w7.heap.size, 0, rfl, hqb.lt, hqb.lt, by rw [Nat.zero_add]; exact hqb.cell k hk⟩⟩ : CellsS _ _ _ 2 (u8s [1, 0])) (Nat.le_refl _) (by unfold maxLen; omega) (by omega) (fun h => by cases h)
  have hdno := Try_Decode _ _ 2 2 [1, 0] _ hqk (.inr ⟨_, _, rfl⟩) (fun b h => h)
  rw [wake_no] at hdno
  obtain ⟨M, hM⟩ : ∃ M, decN ⟨some ⟨w7.heap.size, 0, none⟩, 2, 2, [1, 0], true⟩ = M := ⟨_, rfl⟩
  rw [hM] at hdno
  have HDN := Lib.hid hdno
  clear hN6 hb6 hb67 hb57 hqb hqk hdno hM hwl
  go_wp2_with fail
  (with_reducible refine HDN.out.mono ?_); rintro e w8 ⟨oa, ol, oc, pa, pl, pc, rfl, _, hb8⟩
  have hb78 : Below w7.heap.size w7 w8 := ((Below.refl _ w7).alloc (Nat.le_refl _) _).trans (hb8.mono (by simp))
  obtain ⟨ml, hml⟩ : ∃ b, M.leaf = b := ⟨_, rfl⟩
  rw [hml]
  obtain ⟨w9, hw9⟩ : ∃ w9, w8.alloc (.cells #[.bool ml, .slice oa ol oc, .slice pa pl pc] 28) = w9 := ⟨_, rfl⟩
  have hb89 : Below w8.heap.size w8 w9 := by rw [← hw9]; exact (Below.refl _ _).alloc (Nat.le_refl _) _
  have hb79 := hb78.trans (hb89.mono hb78.size)
  have K9 := Lib.hid (K7.out.ext hb79)
  have M9 := Lib.hid (M7.out.ext hb79)
  have HB9 := Lib.hid (HB7.out.trans (hb79.mono HB7.out.size))
  have N9 := Lib.hid (N7.out.ext hb79)
  have A9 := Lib.hid (A7.out.ext hb79)
  have R9 := Lib.hid (R7.out.ext hb79)
  have B9 := Lib.hid (B7.out.ext hb79)
  clear hb8 hb78 hb89 hb79 hml hw7
  have WB : List Value := []
  obtain ⟨wa, hwa⟩ : ∃ wa, w9.alloc (.cells (u8s wakeB).toArray 5) = wa := ⟨_, rfl⟩
  have hlit : (u8s wakeB).toArray = #[.int .u8 1, .int .u8 2, .int .u8 1, .int .u8 97, .int .u8 0, .int .u8 0, .int .u8 0, .int .u8 0, .int .u8 0, .int .u8 0, .int .u8 0, .int .u8 0, .int .u8 0, .int .u8 0, .int .u8 1, .int .u8 98, .int .u8 1, .int .u8 7, .int .u8 1, .int .u8 255, .int .u8 255, .int .u8 255, .int .u8 255, .int .u8 255, .int .u8 255, .int .u8 255, .int .u8 255] := by kernel_rfl
  have hbla : Blk wa w9.heap.size (u8s wakeB) 5 := by rw [← hwa]; exact Blk.new w9 _ _
  have hb9a : Below w9.heap.size w9 wa := by rw [← hwa]; exact (Below.refl _ _).alloc (Nat.le_refl _) _
  have hbya : BytesAt wa (some ⟨w9.heap.size, 0, none⟩) 27 27 wakeB :=
    (BytesS.of_cells (S := fun _ => True) (⟨rfl, fun k v hk => ⟨w9.heap.size, 0, rfl, hbla.lt, trivial, by rw [Nat.zero_add]; exact hbla.cell k hk⟩⟩ : CellsS _ _ _ 27 (u8s wakeB)) (Nat.le_refl _) (by unfold maxLen; omega) (by omega) (fun h => by cases h)).at_
  have heq := Try_bytesEqual ba _ 27 bc 27 27 wakeB wakeB wa (B9.out.at_.ext hb9a) hbya
  rw [decide_eq_true rfl] at heq
  rw [hlit] at hwa
  have HEQ := Lib.hid heq
  have Ka := Lib.hid (K9.out.ext hb9a)
  have Ma := Lib.hid (M9.out.ext hb9a)
  have HBa := Lib.hid (HB9.out.trans (hb9a.mono HB9.out.size))
  have Na := Lib.hid (N9.out.ext hb9a)
  have Aa := Lib.hid (A9.out.ext hb9a)
  have Ra := Lib.hid (R9.out.ext hb9a)
  clear hbla hb9a hbya heq hlit WB
  go_wp2_with fail
  (with_reducible refine HEQ.out.mono ?_); rintro e wb ⟨rfl, hbb⟩
  have Kb := Lib.hid (Ka.out.ext hbb)
  have Mb := Lib.hid (Ma.out.ext hbb)
  have HBb := Lib.hid (HBa.out.trans (hbb.mono HBa.out.size))
  have Nb := Lib.hid (Na.out.ext hbb)
  have Ab := Lib.hid (Aa.out.ext hbb)
  have Rb := Lib.hid (Ra.out.ext hbb)
  have hrs : Calls Try.prog 19 #[.agg #[.bool true, .slice ia il ic, .slice ja jl jc], .agg #[.bool true, .slice (some ⟨w.heap.size + 1 + 1 + 1, 0, none⟩) 2 2, .slice none 0 0]] wb (fun e w' => e = .returned (.bool true) ∧ Below wb.heap.size wb w') := by
    have h := Try_rSame wakeN wakeN ia ja _ _ il ic jl jc _ _ _ _ _ _ wb Mb.out Nb.out
    rw [wake_same] at h
    exact h
  have HRS := Lib.hid hrs
  have x1 := Kb.out.cells
  have x2 := Ab.out.cells
  have x3 := Rb.out.cells
  have y1 := Kb.out.lt
  have y2 := Ab.out.lt
  have y3 := Rb.out.lt
  clear hbb hrs hwa
  go_wp2_with fail
  (with_reducible refine HRS.out.mono ?_); rintro e wc ⟨rfl, hbc⟩
  have HBc := Lib.hid (HBb.out.trans (hbc.mono HBb.out.size))
  clear hbc x1 x2 x3 y1 y2 y3
  go_wp2
  go_ret
  exact ⟨rfl, HBc.out⟩
end Go.Proofs.Ytfhhcpolicdfpaa
