/-
  The reference of layer 14: Read of a leaf, walked.
-/
import Derived.Test.YtfhhcpolicdfpaaQNodBL
import Derived.Test.YtfhhcpolicdfpaaQNodBA
import Derived.Test.YtfhhcpolicdfpaaQNodBD
import Derived.Test.YtfhhcpolicdfpaaQNodBH
namespace Go.Dav
set_option linter.unusedVariables false
set_option linter.unusedSimpArgs false
open Go Go.RowKit
/-- Nothing is read. -/
def GivesNone (w : World) (e : Ending) (w' : World) : Prop := e = .returned (.tuple #[.agg #[.bool false, .slice none 0 0, .slice none 0 0], .bool false]) ∧ Below w.heap.size w w'
/-- A node is read, in new memory and in that of its bytes. -/
def GivesRead' (S : Nat → Prop) (w : World) (N : NodeD) (e : Ending) (w' : World) : Prop :=
  ∃ ia il ic ka kl kc, e = .returned (.tuple #[.agg #[.bool N.leaf, .slice ia il ic, .slice ka kl kc], .bool true]) ∧ NodeS w' (fun b => S b ∨ w.heap.size ≤ b) ia il ic ka kl kc N ∧ Below w.heap.size w w'
/-- What Read gives. -/
def GivesRd (S : Nat → Prop) (w : World) (O : Option NodeD) (e : Ending) (w' : World) : Prop := match O with
  | none => GivesNone w e w'
  | some N => GivesRead' S w N e w'
/-- Bytes, wherever. -/
def BytesW (x : List UInt8) (v : Value) (W : World) : Prop := ∃ a n c, v = .slice a n c ∧ BytesAt W a n c x
theorem BytesW.later {x : List UInt8} : ∀ v W W', BytesW x v W → Below W.heap.size W W' → BytesW x v W' := fun _ _ _ ⟨a, n, c, h1, h2⟩ hb => ⟨a, n, c, h1, h2.ext hb⟩
theorem own_slice1 {w : World} {base e size n : Nat} {v : Value} {xs : List Value} (h : w.ownsRow base e size v n xs) : ∃ a c, v = .slice a n c := by
  rcases h.2 with ⟨h1, h2⟩ | ⟨g, cap, cur, h1, _⟩
  · exact ⟨none, 0, by rw [h1, h2]⟩
  · exact ⟨_, cap, h1⟩
theorem sevIL_none {k : Nat} {acc : List ItemD} {l : List UInt8} (h : itemL l = none) : sevIL (k + 1) acc l = none := by unfold sevIL; rw [h]
theorem sevIL_some {k : Nat} {acc : List ItemD} {l r : List UInt8} {x : ItemD} (h : itemL l = some (x, r)) : sevIL (k + 1) acc l = sevIL k (acc ++ [x]) r := by rw [sevIL, h]
theorem itemL_n {l r : List UInt8} {x : ItemD} (h : itemL l = some (x, r)) : I64' x.n := by
  unfold itemL at h
  split at h
  · cases h
  · split at h
    · cases h
    · split at h
      · cases h; exact wrap64_in _
      · cases h
/-- What stands while a leaf is read. -/
def RdI (tN tI : TypeId) (S : Nat → Prop) (w : World) (m : Nat) (R : Option (List ItemD)) (rv ix : Value) (wr : World) : Prop :=
  ∃ (k : Nat) (acc : List ItemD) (r : List UInt8) (ra : Option Addr) (rn rc : Nat) (cs : List Value) (v : Value), k ≤ m ∧ ix = .int .i64 k ∧ rv = .slice ra rn rc ∧ BytesS wr S ra rn rc r ∧ plainA ra ∧ sevIL (m - k) acc r = R ∧ wr.ownsRow (w.heap.size + 2) tI 4 v k cs ∧ ItemCells wr S cs acc ∧
    Blk wr w.heap.size [.bool false, .slice none 0 0, .slice none 0 0] tN ∧ Blk wr (w.heap.size + 1) [.bool true, v, .slice none 0 0] tN ∧ Below w.heap.size w wr
end Go.Dav
namespace Go.Proofs.Ytfhhcpolicdfpaa
set_option linter.unusedVariables false
set_option linter.unusedSimpArgs false
open Go.RowKit Go.Dav
attribute [local go_sem] Gives ite_val ite_val_true

theorem Try_rRead_short (a : Option Addr) (n c : Nat) (w : World) (hn : n < 2) : Calls Try.prog 21 #[.slice a n c] w (GivesNone w) := by
  have h1 : (n : Int) < 2 := by omega
  go_enter Try.func21, Try.ntmps21
  go_wp2
  refine bodyPost_ret (v := .tuple #[.agg #[.bool false, .slice none 0 0, .slice none 0 0], .bool false]) (by simp [results, Try.results21, go_sem]) rfl ⟨rfl, ?_⟩
  exact (by repeat (first | (with_reducible exact Below.refl _ _) | (with_reducible exact Below.refl _ _) | (with_reducible refine Below.setCell ?_ (by first | omega | (simp; done) | (simp; omega)) _) | (with_reducible refine Below.alloc ?_ (by first | omega | (simp; done) | (simp; omega)) _) | (with_reducible refine Below.drew ?_) | (with_reducible refine below_drewN ?_ _)))
theorem Try_rRead_big (S : Nat → Prop) (a : Option Addr) (n c : Nat) (f m : UInt8) (r : List UInt8) (w : World) (hB : BytesS w S a n c (f :: m :: r)) (hm : ¬ m.toNat ≤ 6) : Calls Try.prog 21 #[.slice a n c] w (GivesNone w) := by
  have hl := hB.at_.hlen
  simp only [List.length_cons] at hl
  have h1 : ¬ (n : Int) < 2 := by omega
  obtain ⟨b, o, rfl, hb, hc⟩ := hB.at_.hat 1 m rfl
  have h2 : (1 : Int) < (n : Int) := by omega
  have h2' : 1 < n := by omega
  obtain ⟨mm, hmm⟩ : ∃ k, m.toNat = k := ⟨_, rfl⟩
  rw [hmm] at hc hm
  have h3 : (6 : Int) < (mm : Int) := by omega
  clear hB hl hmm hm
  go_enter Try.func21, Try.ntmps21
  go_wp2
  refine bodyPost_ret (v := .tuple #[.agg #[.bool false, .slice none 0 0, .slice none 0 0], .bool false]) (by simp [results, Try.results21, go_sem]) rfl ⟨rfl, ?_⟩
  exact (by repeat (first | (with_reducible exact Below.refl _ _) | (with_reducible exact Below.refl _ _) | (with_reducible refine Below.setCell ?_ (by first | omega | (simp; done) | (simp; omega)) _) | (with_reducible refine Below.alloc ?_ (by first | omega | (simp; done) | (simp; omega)) _) | (with_reducible refine Below.drew ?_) | (with_reducible refine below_drewN ?_ _)))
set_option maxRecDepth 8000 in
set_option maxHeartbeats 16000000 in
theorem Try_rRead_leaf (S : Nat → Prop) (a : Option Addr) (n c : Nat) (f m : UInt8) (r : List UInt8) (w : World) (hB : BytesS w S a n c (f :: m :: r)) (hf : plainA a) (hS : ∀ b, S b → b < w.heap.size) (hf1 : f.toNat = 1) (hm : m.toNat ≤ 6) :
    Calls Try.prog 21 #[.slice a n c] w (GivesRd S w (readL (f :: m :: r))) := by
  have hl := hB.at_.hlen
  simp only [List.length_cons] at hl
  have h1 : ¬ (n : Int) < 2 := by omega
  obtain ⟨b, o, e0, hb, hc0⟩ := hB.at_.hat 0 f rfl
  obtain ⟨b', o', e1, _, hc1⟩ := hB.at_.hat 1 m rfl
  rw [e0] at e1
  cases e1
  subst e0
  rw [Nat.add_zero] at hc0
  have hcap := hB.at_.hcap
  have hD := hB.drop (k := 2) (by omega)
  have hDp := hf.adv c 2
  have h2 : (1 : Int) < (n : Int) := by omega
  have h2' : 1 < n := by omega
  have h2'' : 0 < n := by omega
  have h22 : (2 : Int) ≤ (n : Int) := by omega
  have h23 : (n : Int) ≤ (c : Int) := by omega
  obtain ⟨mm, hmm⟩ : ∃ k, m.toNat = k := ⟨_, rfl⟩
  have hraw : rawL (f :: m :: r) = (sevIL mm [] r).map (⟨true, ·, []⟩) := by rw [rawL_cons, if_pos hm, if_pos hf1, hmm]
  rw [hmm] at hc1 hm
  rw [hf1] at hc0
  have hm6 : (mm : Int) ≤ 6 := by omega
  have hm6' : ¬ (6 : Int) < (mm : Int) := by omega
  have hcc : c = 2 ∨ c ≠ 2 := by omega
  have HB := Lib.hid hB
  have HS := Lib.hid hS
  have HD := Lib.hid hD
  have HDP := Lib.hid hDp
  have HRAW := Lib.hid hraw
  have HM := Lib.hid hm
  obtain ⟨i0, hi0, hz0, hz1, hz2⟩ := info_parts Try_infoItem
  have HI := Lib.hid (And.intro hi0 (And.intro hz0 (And.intro hz1 hz2)))
  clear hB hl hmm hm hf hf1 hS hD hDp hraw hi0 hz0 hz1 hz2
  obtain ⟨O, hO⟩ : ∃ O, readL (f :: m :: r) = O := ⟨_, rfl⟩
  rw [hO]
  have HOO := Lib.hid hO
  clear hO
  by_cases hc2 : c = 2
  · subst hc2
    obtain rfl : n = 2 := by omega
    unfold advA at HD HDP
    simp only [if_true] at HD HDP
    clear hcc
    obtain ⟨w2, hw2⟩ : ∃ w2, (w.alloc (.cells #[.bool false, .slice none 0 0, .slice none 0 0] 28)).alloc (.cells #[.bool true, .slice none 0 0, .slice none 0 0] 28) = w2 := ⟨_, rfl⟩
    have hb2 : Below w.heap.size w w2 := by rw [← hw2]; exact (by repeat (first | (with_reducible exact Below.refl _ _) | (with_reducible exact Below.refl _ _) | (with_reducible refine Below.setCell ?_ (by first | omega | (simp; done) | (simp; omega)) _) | (with_reducible refine Below.alloc ?_ (by first | omega | (simp; done) | (simp; omega)) _) | (with_reducible refine Below.drew ?_) | (with_reducible refine below_drewN ?_ _)))
    have HQ0 := Lib.hid (show Blk w2 w.heap.size [.bool false, .slice none 0 0, .slice none 0 0] 28 by rw [← hw2]; exact (Blk.new w _ _).alloc _)
    have HQ1 := Lib.hid (show Blk w2 (w.heap.size + 1) [.bool true, .slice none 0 0, .slice none 0 0] 28 by rw [← hw2]; exact Blk.new' _ _ _ (by simp))
    have HB2 := Lib.hid hb2
    have HD2 := Lib.hid (HD.out.ext hb2)
    have HW2 := Lib.hid hw2
    clear hb2 hw2
    go_enter Try.func21, Try.ntmps21
    go_wp2_with fail
    rw [HW2.out]
    clear HW2
    go_loopw [5, 6] (fun rv ix wr => RdI 28 56 S w mm (sevIL mm [] r) rv ix wr) (fun _ ix _ => mm - (intOf ix).toNat)
    case atStart => exact ⟨0, [], r, (some ⟨b, o, none⟩), 0, 0, [], .slice none 0 0, Nat.zero_le _, rfl, rfl, HD2.out, HDP.out, rfl, World.ownsRow_nil _ _ _ _, ItemCells.nil, HQ0.out, HQ1.out, HB2.out⟩
    case round =>
      obtain ⟨k, acc, rr, ra, rn, rc, cs, v, hk, rfl, rfl, hR, hrp, hsev, hown, hcl, hq0, hq1, hbel⟩ := hrel
      have HR := Lib.hid hR
      have HRP := Lib.hid hrp
      have HSEV := Lib.hid hsev
      have HOW := Lib.hid hown
      have HCL := Lib.hid hcl
      have HQR := Lib.hid hq0
      have HQN := Lib.hid hq1
      have HBL := Lib.hid hbel
      have cm := ((after hbel).1 b (o + 1) hb).trans hc1
      have c1 := hq1.cells
      have m1 := hq1.marks
      have l1 := hq1.lt
      have hbw : b < wr.heap.size := Nat.lt_of_lt_of_le hb hbel.size
      clear hR hrp hsev hown hcl hq0 hq1 hbel
      by_cases hlt : k < mm
      · have hlt' : (k : Int) < (mm : Int) := by omega
        have HLT := Lib.hid hlt
        have hk6 : k ≤ 6 := by have := HM.out; omega
        have HXA := Lib.hid (Blk.new wr [.slice none 0 0, .slice none 0 0, .bool false, .int .i64 0] 56)
        have hba : Below wr.heap.size wr (wr.alloc (.cells #[.slice none 0 0, .slice none 0 0, .bool false, .int .i64 0] 56)) := (Below.refl _ _).alloc (Nat.le_refl _) _
        have HBA := Lib.hid hba
        have hit := Try_rItemAt S ra rn rc rr _ (HR.out.ext hba) HRP.out (fun b h => by have := HS.out b h; have := HBL.out.size; simp; omega)
        clear hlt hk hba
        cases hi : itemL rr with
        | none =>
          have HC := Lib.hid (hit.1 hi)
          have HNO := Lib.hid (show O = none by
            have h := HSEV.out
            rw [show mm - k = (mm - (k + 1)) + 1 by have := HLT.out; omega] at h
            rw [sevIL_none hi] at h
            rw [← HOO.out]
            unfold readL
            rw [HRAW.out, ← h]; rfl)
          clear hit hi
          go_wp2_with fail
          (with_reducible refine HC.out.mono ?_); rintro e w3 ⟨rfl, hb3⟩
          clear HC cm c1 m1 l1
          have hx3 := HXA.out.ext hb3
          obtain ⟨w4, hw4⟩ : ∃ w4, (((w3.setCell ⟨wr.heap.size, 0, none⟩ (.slice none 0 0)).setCell ⟨wr.heap.size, 1, none⟩ (.slice none 0 0)).setCell ⟨wr.heap.size, 2, none⟩ (.bool false)).setCell ⟨wr.heap.size, 3, none⟩ (.int .i64 0) = w4 := ⟨_, rfl⟩
          have hx4 : Blk w4 wr.heap.size [(.slice none 0 0), (.slice none 0 0), (.bool false), (.int .i64 0)] 56 := by rw [← hw4]; exact (((hx3.set 0 _).set 1 _).set 2 _).set 3 _
          have hO4 : Only wr.heap.size w3 w4 := by rw [← hw4]; exact ((((Only.refl wr.heap.size w3).set 0 _).set 1 _).set 2 _).set 3 _
          have hb34 : Below wr.heap.size wr w4 := below_only (HBA.out.trans (hb3.mono HBA.out.size)) hO4 (Nat.le_trans HBA.out.size hb3.size) (Nat.le_refl _)
          have hq0 := HQR.out.ext hb34
          have hq1 := HQN.out.ext hb34
          have HB4 := Lib.hid (HBL.out.trans (hb34.mono HBL.out.size))
          have HO4 := Lib.hid ((ownsRow_ext HOW.out hb34).alloc (.cells #[(.slice none 0 0), (.slice none 0 0), (.bool false), (.int .i64 0)] 56))
          have hs34 : w4.heap.size = w3.heap.size := by rw [← hw4]; simp
          have HSR := Lib.hid ((ownsRow_blk (n := 1) (size := 4) (base := w3.heap.size) (xs := [(.slice none 0 0), (.slice none 0 0), (.bool false), (.int .i64 0)]) (Blk.new' w4 [_, _, _, _] 56 hs34) (Nat.le_refl _) rfl (by unfold maxLen; omega)).cells (g := w3.heap.size) rfl)
          have HQ04 := Lib.hid hq0
          have HQ14 := Lib.hid hq1
          have HB34 := Lib.hid hb34
          have HW4 := Lib.hid hw4
          have hs4 : w.heap.size + 2 ≤ w4.heap.size := by have h1 := hb34.size; have h2 := HQN.out.lt; omega
          have HS4 := Lib.hid hs4
          have HON := Lib.hid hO4
          have x3 := hx3.cells
          have y3 := hx3.marks
          have z3 := hx3.lt
          have q3 := (HQN.out.ext (HBA.out.trans (hb3.mono HBA.out.size))).cells
          have q3m := (HQN.out.ext (HBA.out.trans (hb3.mono HBA.out.size))).marks
          have q3l := (HQN.out.ext (HBA.out.trans (hb3.mono HBA.out.size))).lt
          have hne : wr.heap.size ≠ w.heap.size + 1 := by have := HQN.out.lt; omega
          have hne' : w.heap.size + 1 ≠ wr.heap.size := by have := HQN.out.lt; omega
          obtain ⟨hi0, hz0, hz1, hz2⟩ := HI.out
          clear hb3 hx3 hx4 hO4 hb34 hq0 hq1 hw4 hs4 hs34
          go_wp2_with (at_builtin; rw [HW4.out]; refine wpList_append_own _ rfl (.tmp 44) (.tmp 46) 25 rfl (w.heap.size + 2) 56 i0 _ 4 64 Try.underlying25 hi0 hz0 hz1 hz2 rfl (by decide) v k cs rfl HO4.out ⟨w3.heap.size, 0, none⟩ 1 1 [(.slice none 0 0), (.slice none 0 0), (.bool false), (.int .i64 0)] rfl rfl HSR.out (by intro u hu; simp at hu; rcases hu with rfl | rfl | rfl | rfl <;> rfl) (by unfold maxLen; omega) (by omega) (by have := HS4.out; simp; omega) ?_; intro v' w6 hown6 hgrow _; obtain ⟨v6a, v6c, rfl⟩ := own_slice1 hown6; have hb6 : Below (w.heap.size + 2) w4 w6 := ((Below.refl (w.heap.size + 2) w4).alloc (by have := HS4.out; omega) (.cells #[(.slice none 0 0), (.slice none 0 0), (.bool false), (.int .i64 0)] 56)).grown hgrow (by have := HS4.out; simp; omega) (fun k hk => (HO4.out.lt k hk).1); have q06 := HQ04.out.below hb6 (by omega); have q16 := HQ14.out.below hb6 (by omega); have HB6 := Lib.hid hb6; have HOW6 := Lib.hid hown6; have HQ06 := Lib.hid q06; have HQ16 := Lib.hid q16; have c6 := q16.cells; have m6 := q16.marks; have l6 := q16.lt; have d6 := q06.cells; have n6 := q06.marks; have o6 := q06.lt; clear hb6 hown6 hgrow q06 q16 x3 y3 z3 q3 q3m q3l)
          have HBE := Lib.hid (HB4.out.trans (HB6.out.mono (by omega)))
          refine bodyPost_ret (v := .tuple #[.agg #[.bool false, .slice none 0 0, .slice none 0 0], .bool false]) (by simp [results, Try.results21, go_sem, *]) rfl ?_
          rw [HNO.out]
          refine ⟨rfl, ?_⟩
          have h := HBE.out; have hsz := h.size; exact (by repeat (first | (with_reducible exact Below.refl _ _) | (with_reducible exact Below.refl _ _) | (with_reducible refine Below.setCell ?_ (by first | omega | (simp; done) | (simp; omega)) _) | (with_reducible refine Below.alloc ?_ (by first | omega | (simp; done) | (simp; omega)) _) | (with_reducible refine Below.drew ?_) | (with_reducible refine below_drewN ?_ _) | (with_reducible refine Below.trans ?_ (h.mono (by first | omega | (simp; done) | (simp; omega))))))
        | some p =>
          obtain ⟨x, r'⟩ := p
          have HC := Lib.hid (hit.2 x r' hi)
          have HXN := Lib.hid (itemL_n hi)
          have HSEV2 := Lib.hid (show sevIL (mm - (k + 1)) (acc ++ [x]) r' = sevIL mm [] r by
            have h := HSEV.out
            rw [show mm - k = (mm - (k + 1)) + 1 by have := HLT.out; omega, sevIL_some hi] at h
            exact h)
          clear hit hi
          go_wp2_with fail
          (with_reducible refine HC.out.mono ?_); rintro e w3 ⟨ka, kn, kc, va, vn, vc, ta, tn, tc, rfl, hK, hV, hT, htp, hb3⟩
          have HK3 := Lib.hid hK
          have HV3 := Lib.hid hV
          have HT3 := Lib.hid hT
          have HTP := Lib.hid htp
          have HS3 := Lib.hid (show wr.heap.size ≤ w3.heap.size from Nat.le_trans HBA.out.size hb3.size)
          clear HC cm c1 m1 l1 hK hV hT htp
          simp only [itemCellV]
          obtain ⟨xi, hxi⟩ : ∃ b, x.int = b := ⟨_, rfl⟩
          obtain ⟨xn, hxn⟩ : ∃ b, x.n = b := ⟨_, rfl⟩
          rw [hxi, hxn]
          have HXI := Lib.hid (And.intro hxi hxn)
          clear hxi hxn
          have hx3 := HXA.out.ext hb3
          obtain ⟨w4, hw4⟩ : ∃ w4, (((w3.setCell ⟨wr.heap.size, 0, none⟩ (.slice ka kn kc)).setCell ⟨wr.heap.size, 1, none⟩ (.slice va vn vc)).setCell ⟨wr.heap.size, 2, none⟩ (.bool xi)).setCell ⟨wr.heap.size, 3, none⟩ (.int .i64 xn) = w4 := ⟨_, rfl⟩
          have hx4 : Blk w4 wr.heap.size [(.slice ka kn kc), (.slice va vn vc), (.bool xi), (.int .i64 xn)] 56 := by rw [← hw4]; exact (((hx3.set 0 _).set 1 _).set 2 _).set 3 _
          have hO4 : Only wr.heap.size w3 w4 := by rw [← hw4]; exact ((((Only.refl wr.heap.size w3).set 0 _).set 1 _).set 2 _).set 3 _
          have hb34 : Below wr.heap.size wr w4 := below_only (HBA.out.trans (hb3.mono HBA.out.size)) hO4 (Nat.le_trans HBA.out.size hb3.size) (Nat.le_refl _)
          have hq0 := HQR.out.ext hb34
          have hq1 := HQN.out.ext hb34
          have HB4 := Lib.hid (HBL.out.trans (hb34.mono HBL.out.size))
          have HO4 := Lib.hid ((ownsRow_ext HOW.out hb34).alloc (.cells #[(.slice ka kn kc), (.slice va vn vc), (.bool xi), (.int .i64 xn)] 56))
          have hs34 : w4.heap.size = w3.heap.size := by rw [← hw4]; simp
          have HSR := Lib.hid ((ownsRow_blk (n := 1) (size := 4) (base := w3.heap.size) (xs := [(.slice ka kn kc), (.slice va vn vc), (.bool xi), (.int .i64 xn)]) (Blk.new' w4 [_, _, _, _] 56 hs34) (Nat.le_refl _) rfl (by unfold maxLen; omega)).cells (g := w3.heap.size) rfl)
          have HQ04 := Lib.hid hq0
          have HQ14 := Lib.hid hq1
          have HB34 := Lib.hid hb34
          have HW4 := Lib.hid hw4
          have hs4 : w.heap.size + 2 ≤ w4.heap.size := by have h1 := hb34.size; have h2 := HQN.out.lt; omega
          have HS4 := Lib.hid hs4
          have HON := Lib.hid hO4
          have x3 := hx3.cells
          have y3 := hx3.marks
          have z3 := hx3.lt
          have q3 := (HQN.out.ext (HBA.out.trans (hb3.mono HBA.out.size))).cells
          have q3m := (HQN.out.ext (HBA.out.trans (hb3.mono HBA.out.size))).marks
          have q3l := (HQN.out.ext (HBA.out.trans (hb3.mono HBA.out.size))).lt
          have hne : wr.heap.size ≠ w.heap.size + 1 := by have := HQN.out.lt; omega
          have hne' : w.heap.size + 1 ≠ wr.heap.size := by have := HQN.out.lt; omega
          obtain ⟨hi0, hz0, hz1, hz2⟩ := HI.out
          clear hb3 hx3 hx4 hO4 hb34 hq0 hq1 hw4 hs4 hs34
          go_wp2_with (at_builtin; rw [HW4.out]; refine wpList_append_own _ rfl (.tmp 44) (.tmp 46) 25 rfl (w.heap.size + 2) 56 i0 _ 4 64 Try.underlying25 hi0 hz0 hz1 hz2 rfl (by decide) v k cs rfl HO4.out ⟨w3.heap.size, 0, none⟩ 1 1 [(.slice ka kn kc), (.slice va vn vc), (.bool xi), (.int .i64 xn)] rfl rfl HSR.out (by intro u hu; simp at hu; rcases hu with rfl | rfl | rfl | rfl <;> rfl) (by unfold maxLen; omega) (by omega) (by have := HS4.out; simp; omega) ?_; intro v' w6 hown6 hgrow _; obtain ⟨v6a, v6c, rfl⟩ := own_slice1 hown6; have hb6 : Below (w.heap.size + 2) w4 w6 := ((Below.refl (w.heap.size + 2) w4).alloc (by have := HS4.out; omega) (.cells #[(.slice ka kn kc), (.slice va vn vc), (.bool xi), (.int .i64 xn)] 56)).grown hgrow (by have := HS4.out; simp; omega) (fun k hk => (HO4.out.lt k hk).1); have q06 := HQ04.out.below hb6 (by omega); have q16 := HQ14.out.below hb6 (by omega); have HB6 := Lib.hid hb6; have HOW6 := Lib.hid hown6; have HQ06 := Lib.hid q06; have HQ16 := Lib.hid q16; have c6 := q16.cells; have m6 := q16.marks; have l6 := q16.lt; have d6 := q06.cells; have n6 := q06.marks; have o6 := q06.lt; clear hb6 hown6 hgrow q06 q16 x3 y3 z3 q3 q3m q3l)
          have hsz : w.heap.size + 2 ≤ wr.heap.size := by have := HQN.out.lt; omega
          have hkeep : ∀ j, j < w.heap.size → (w6.setCell ⟨w.heap.size + 1, 1, none⟩ (.slice v6a (k + 1) v6c)).heap[j]? = w3.heap[j]? := fun j hj =>
            (Below.heap_setCell w6 ⟨w.heap.size + 1, 1, none⟩ _ j (fun e => by have e2 : j = w.heap.size + 1 := e; omega)).trans ((HB6.out.block j (by omega)).trans (HON.out.block j (by have := HS3.out; omega) (by omega)))
          have hgw : w3.heap.size ≤ (w6.setCell ⟨w.heap.size + 1, 1, none⟩ (.slice v6a (k + 1) v6c)).heap.size := by have h1 := HON.out.size; have h2 := HB6.out.size; simp; omega
          have hkr : ∀ j, j < w.heap.size → (w6.setCell ⟨w.heap.size + 1, 1, none⟩ (.slice v6a (k + 1) v6c)).heap[j]? = wr.heap[j]? := fun j hj =>
            (Below.heap_setCell w6 ⟨w.heap.size + 1, 1, none⟩ _ j (fun e => by have e2 : j = w.heap.size + 1 := e; omega)).trans ((HB6.out.block j (by omega)).trans (HB34.out.block j (by omega)))
          have hgr : wr.heap.size ≤ (w6.setCell ⟨w.heap.size + 1, 1, none⟩ (.slice v6a (k + 1) v6c)).heap.size := by have h1 := HB34.out.size; have h2 := HB6.out.size; simp; omega
          have HBE := Lib.hid ((HB4.out.trans (HB6.out.mono (by omega))).setCell (p := ⟨w.heap.size + 1, 1, none⟩) (by show w.heap.size ≤ w.heap.size + 1; omega) (.slice v6a (k + 1) v6c))
          have HT7 := Lib.hid (HT3.out.same hgw fun b h _ => hkeep b (HS.out b h))
          have HC7 := Lib.hid ((HCL.out.same hgr fun b h _ => hkr b (HS.out b h)).snoc (x := x) (HK3.out.same hgw fun b h _ => hkeep b (HS.out b h)) (HV3.out.same hgw fun b h _ => hkeep b (HS.out b h)) HXN.out)
          rw [HXI.out.1, HXI.out.2] at HC7
          have HO7 := Lib.hid (ownsRow_setCell_below HOW6.out (a := ⟨w.heap.size + 1, 1, none⟩) (by show w.heap.size + 1 < w.heap.size + 2; omega) (.slice v6a (k + 1) v6c))
          clear hkeep hgw hkr hgr
          go_roundw
          case rel => exact ⟨k + 1, acc ++ [x], r', ta, tn, tc, _, _, HLT.out, by go_num, rfl, HT7.out, HTP.out, HSEV2.out, HO7.out, HC7.out, HQ06.out.other (by omega) _ _, HQ16.out.set 1 _, HBE.out⟩
          case measure => simp [intOf]; have := HLT.out; omega
      · obtain rfl : k = mm := by omega
        have hlt' : ¬ (k : Int) < (k : Int) := by omega
        obtain ⟨ia, ic, rfl, hIS⟩ := HCL.out.shut HOW.out (by have := HM.out; omega)
        have hNS : NodeS wr (fun b => S b ∨ w.heap.size + 2 ≤ b) ia k ic none 0 0 ⟨true, acc, []⟩ := ⟨hIS, KidsS.nil_⟩
        have hO : O = if nodeOk ⟨true, acc, []⟩ = true ∧ nodeBytes ⟨true, acc, []⟩ = f :: m :: r then some ⟨true, acc, []⟩ else none := by
          have h := HSEV.out
          rw [Nat.sub_self] at h
          rw [← HOO.out]
          unfold readL
          rw [HRAW.out, ← h]; rfl
        obtain ⟨N, hN⟩ : ∃ N : NodeD, (⟨true, acc, []⟩ : NodeD) = N := ⟨_, rfl⟩
        have hlf : N.leaf = true := by rw [← hN]
        rw [hN] at hNS hO
        have HNS := Lib.hid hNS
        have HLF := Lib.hid hlf
        have HOE := Lib.hid hO
        have HBR := Lib.hid (HB.out.at_.ext HBL.out)
        have d1 := HQR.out.cells
        have n1 := HQR.out.marks
        have o1 := HQR.out.lt
        obtain ⟨ls, hls⟩ : ∃ ls, f :: m :: r = ls := ⟨_, rfl⟩
        rw [hls] at HOE HBR
        clear hlt hk hIS hNS hO hN hlf hls
        cases hok : nodeOk N with
        | false =>
          have HNO := Lib.hid (show O = none by rw [HOE.out, if_neg (by rw [hok]; simp)])
          have HOK := Lib.hid hok
          clear hok
          go_wp2_with fail
          refine' wp_region_seq [.inl _, .inl _, .inl _, .inl _, .inl undef, .inl undef, .inl undef, .inl undef, .inl undef, .inl undef, .inl _] (by kernel_rfl) (by kernel_rfl) ?main1
          case main1 =>
            refine wpParts_det (by rfl) (fun W hE hN => ?_) ?_
            · have hc := fun b o h => hE.cell (p := ⟨b, o, none⟩) h
              go_simp; refine ⟨Below.refl _ _, ?_⟩; rfl
            simp only [Act.put, List.setIfInBounds_toArray, List.set_cons_zero, List.set_cons_succ]
            refine wpParts_det (by rfl) (fun W hE hN => ?_) ?_
            · go_simp; refine ⟨Below.refl _ _, ?_⟩; have h := Try_rRight N ia none k ic 0 0 _ W (HNS.out.ext hE); rw [HLF.out, HOK.out] at h; refine h.mono ?_; rintro e w' ⟨rfl, hb⟩; refine ⟨?_, hb⟩; rfl
            simp only [Act.put, List.setIfInBounds_toArray, List.set_cons_zero, List.set_cons_succ]
            refine wpParts_det (by rfl) (fun W hE hN => ?_) ?_
            · go_simp; refine ⟨Below.refl _ _, ?_⟩; rfl
            simp only [Act.put, List.setIfInBounds_toArray, List.set_cons_zero, List.set_cons_succ]
            refine wpParts_det (by rfl) (fun W hE hN => ?_) ?_
            · go_simp; refine ⟨Below.refl _ _, ?_⟩; rfl
            simp only [Act.put, List.setIfInBounds_toArray, List.set_cons_zero, List.set_cons_succ]
            refine wpParts_skip ?_ ?_
            · rfl
            simp only [Act.put, List.setIfInBounds_toArray, List.set_cons_zero, List.set_cons_succ]
            refine wpParts_skip ?_ ?_
            · rfl
            simp only [Act.put, List.setIfInBounds_toArray, List.set_cons_zero, List.set_cons_succ]
            refine wpParts_skip ?_ ?_
            · rfl
            simp only [Act.put, List.setIfInBounds_toArray, List.set_cons_zero, List.set_cons_succ]
            refine wpParts_skip ?_ ?_
            · rfl
            simp only [Act.put, List.setIfInBounds_toArray, List.set_cons_zero, List.set_cons_succ]
            refine wpParts_skip ?_ ?_
            · rfl
            simp only [Act.put, List.setIfInBounds_toArray, List.set_cons_zero, List.set_cons_succ]
            refine wpParts_skip ?_ ?_
            · rfl
            simp only [Act.put, List.setIfInBounds_toArray, List.set_cons_zero, List.set_cons_succ]
            refine wpParts_det (by rfl) (fun W hE hN => ?_) ?_
            · go_simp; refine ⟨Below.refl _ _, ?_⟩; rfl
            simp only [Act.put, List.setIfInBounds_toArray, List.set_cons_zero, List.set_cons_succ]
            refine wpParts_end fun W9 hE9 hG9 => ?_
            have hcW9 := fun b o h => hE9.cell (p := ⟨b, o, none⟩) h
            have hfW9 := fun b o h => hE9.frozen (p := ⟨b, o, none⟩) h
            have q9 := HQR.out.ext hE9
            have e9 := q9.cells
            have g9 := q9.marks
            have h9 := q9.lt
            have HB9 := Lib.hid (HBL.out.trans (hE9.mono HBL.out.size))
            clear hE9 hG9 hcW9 hfW9 c1 m1 l1 d1 n1 o1 cm q9
            go_wp2
            refine bodyPost_ret (v := .tuple #[.agg #[.bool false, .slice none 0 0, .slice none 0 0], .bool false]) (by simp [results, Try.results21, go_sem, *]) rfl ?_
            rw [HNO.out]
            refine ⟨rfl, ?_⟩
            have h := HB9.out; have hsz := h.size; exact (by repeat (first | (with_reducible exact Below.refl _ _) | (with_reducible exact Below.refl _ _) | (with_reducible refine Below.setCell ?_ (by first | omega | (simp; done) | (simp; omega)) _) | (with_reducible refine Below.alloc ?_ (by first | omega | (simp; done) | (simp; omega)) _) | (with_reducible refine Below.drew ?_) | (with_reducible refine below_drewN ?_ _) | (with_reducible refine Below.trans ?_ (h.mono (by first | omega | (simp; done) | (simp; omega))))))
        | true =>
          have HOK := Lib.hid hok
          clear hok
          obtain ⟨q, hq⟩ : ∃ q, decide (nodeBytes N = ls) = q := ⟨_, rfl⟩
          have hq1 : (nodeBytes N == ls) = q := by rw [list_beq, hq]
          have hq2 : (nodeBytes N != ls) = !q := by rw [bne, list_beq, hq]
          have HQQ := Lib.hid hq
          clear hq
          cases q with
          | false =>
            have HNO := Lib.hid (show O = none by rw [HOE.out, if_neg (fun h => of_decide_eq_false HQQ.out h.2)])
            go_wp2_with fail
            refine' wp_region_seq [.inl _, .inl _, .inl _, .inl _, .inl _, .inr (BytesW (nodeBytes N)), .inl _, .inl _, .inl _, .inl _, .inl _] (by kernel_rfl) (by kernel_rfl) ?main2
            case main2 =>
              refine wpParts_det (by rfl) (fun W hE hN => ?_) ?_
              · have hc := fun b o h => hE.cell (p := ⟨b, o, none⟩) h
                go_simp; refine ⟨Below.refl _ _, ?_⟩; rfl
              simp only [Act.put, List.setIfInBounds_toArray, List.set_cons_zero, List.set_cons_succ]
              refine wpParts_det (by rfl) (fun W hE hN => ?_) ?_
              · go_simp; refine ⟨Below.refl _ _, ?_⟩; have h := Try_rRight N ia none k ic 0 0 _ W (HNS.out.ext hE); rw [HLF.out, HOK.out] at h; refine h.mono ?_; rintro e w' ⟨rfl, hb⟩; refine ⟨?_, hb⟩; rfl
              simp only [Act.put, List.setIfInBounds_toArray, List.set_cons_zero, List.set_cons_succ]
              refine wpParts_det (by rfl) (fun W hE hN => ?_) ?_
              · go_simp; refine ⟨Below.refl _ _, ?_⟩; rfl
              simp only [Act.put, List.setIfInBounds_toArray, List.set_cons_zero, List.set_cons_succ]
              refine wpParts_det (by rfl) (fun W hE hN => ?_) ?_
              · go_simp; refine ⟨Below.refl _ _, ?_⟩; rfl
              simp only [Act.put, List.setIfInBounds_toArray, List.set_cons_zero, List.set_cons_succ]
              refine wpParts_det (by rfl) (fun W hE hN => ?_) ?_
              · have hc := fun b o h => hE.cell (p := ⟨b, o, none⟩) h
                go_simp; refine ⟨Below.refl _ _, ?_⟩; rfl
              simp only [Act.put, List.setIfInBounds_toArray, List.set_cons_zero, List.set_cons_succ]
              refine wpParts_any rfl (BytesW.later) (by rfl) (fun W hE hN => ?_) (fun u5 => ?_)
              · go_simp; refine ⟨Below.refl _ _, ?_⟩; have h := Try_rBytes N ia none k ic 0 0 _ W (HNS.out.ext hE).s (fun b h => h) HOK.out; rw [HLF.out] at h; refine h.mono ?_; rintro e w' ⟨ea, en, ec, rfl, hK, hb⟩; exact ⟨_, rfl, hb, ea, en, ec, rfl, hK.at_⟩
              simp only [Act.put, List.setIfInBounds_toArray, List.set_cons_zero, List.set_cons_succ]
              refine wpParts_det (by rfl) (fun W hE hN => ?_) ?_
              · simp [near, Oper.looksAt, Op.operands, Call.operands] at hN; obtain ⟨ea, en, ec, rfl, hK⟩ := hN; have k1 := conv_bytes hK 22 9 5 Try.underlying22 Try.underlying5 Try.underlying9; go_simp; refine ⟨Below.refl _ _, ?_⟩; rfl
              simp only [Act.put, List.setIfInBounds_toArray, List.set_cons_zero, List.set_cons_succ]
              refine wpParts_det (by rfl) (fun W hE hN => ?_) ?_
              · go_simp; refine ⟨Below.refl _ _, ?_⟩; rfl
              simp only [Act.put, List.setIfInBounds_toArray, List.set_cons_zero, List.set_cons_succ]
              refine wpParts_det (by rfl) (fun W hE hN => ?_) ?_
              · have k1 := conv_bytes (HBR.out.ext hE) 22 9 5 Try.underlying22 Try.underlying5 Try.underlying9; go_simp; refine ⟨Below.refl _ _, ?_⟩; rfl
              simp only [Act.put, List.setIfInBounds_toArray, List.set_cons_zero, List.set_cons_succ]
              refine wpParts_det (by rfl) (fun W hE hN => ?_) ?_
              · go_simp; refine ⟨Below.refl _ _, ?_⟩; rfl
              simp only [Act.put, List.setIfInBounds_toArray, List.set_cons_zero, List.set_cons_succ]
              refine wpParts_det (by rfl) (fun W hE hN => ?_) ?_
              · go_simp; refine ⟨Below.refl _ _, ?_⟩; rfl
              simp only [Act.put, List.setIfInBounds_toArray, List.set_cons_zero, List.set_cons_succ]
              refine wpParts_end fun W9 hE9 hG9 => ?_
              have hcW9 := fun b o h => hE9.cell (p := ⟨b, o, none⟩) h
              have hfW9 := fun b o h => hE9.frozen (p := ⟨b, o, none⟩) h
              have q9 := HQR.out.ext hE9
              have e9 := q9.cells
              have g9 := q9.marks
              have h9 := q9.lt
              have HB9 := Lib.hid (HBL.out.trans (hE9.mono HBL.out.size))
              clear hE9 hG9 hcW9 hfW9 c1 m1 l1 d1 n1 o1 cm q9
              go_wp2
              refine bodyPost_ret (v := .tuple #[.agg #[.bool false, .slice none 0 0, .slice none 0 0], .bool false]) (by simp [results, Try.results21, go_sem, *]) rfl ?_
              rw [HNO.out]
              refine ⟨rfl, ?_⟩
              have h := HB9.out; have hsz := h.size; exact (by repeat (first | (with_reducible exact Below.refl _ _) | (with_reducible exact Below.refl _ _) | (with_reducible refine Below.setCell ?_ (by first | omega | (simp; done) | (simp; omega)) _) | (with_reducible refine Below.alloc ?_ (by first | omega | (simp; done) | (simp; omega)) _) | (with_reducible refine Below.drew ?_) | (with_reducible refine below_drewN ?_ _) | (with_reducible refine Below.trans ?_ (h.mono (by first | omega | (simp; done) | (simp; omega))))))
          | true =>
            have HYES := Lib.hid (show O = some N by rw [HOE.out, if_pos ⟨HOK.out, of_decide_eq_true HQQ.out⟩])
            go_wp2_with fail
            refine' wp_region_seq [.inl _, .inl _, .inl _, .inl _, .inl _, .inr (BytesW (nodeBytes N)), .inl _, .inl _, .inl _, .inl _, .inl _] (by kernel_rfl) (by kernel_rfl) ?main3
            case main3 =>
              refine wpParts_det (by rfl) (fun W hE hN => ?_) ?_
              · have hc := fun b o h => hE.cell (p := ⟨b, o, none⟩) h
                go_simp; refine ⟨Below.refl _ _, ?_⟩; rfl
              simp only [Act.put, List.setIfInBounds_toArray, List.set_cons_zero, List.set_cons_succ]
              refine wpParts_det (by rfl) (fun W hE hN => ?_) ?_
              · go_simp; refine ⟨Below.refl _ _, ?_⟩; have h := Try_rRight N ia none k ic 0 0 _ W (HNS.out.ext hE); rw [HLF.out, HOK.out] at h; refine h.mono ?_; rintro e w' ⟨rfl, hb⟩; refine ⟨?_, hb⟩; rfl
              simp only [Act.put, List.setIfInBounds_toArray, List.set_cons_zero, List.set_cons_succ]
              refine wpParts_det (by rfl) (fun W hE hN => ?_) ?_
              · go_simp; refine ⟨Below.refl _ _, ?_⟩; rfl
              simp only [Act.put, List.setIfInBounds_toArray, List.set_cons_zero, List.set_cons_succ]
              refine wpParts_det (by rfl) (fun W hE hN => ?_) ?_
              · go_simp; refine ⟨Below.refl _ _, ?_⟩; rfl
              simp only [Act.put, List.setIfInBounds_toArray, List.set_cons_zero, List.set_cons_succ]
              refine wpParts_det (by rfl) (fun W hE hN => ?_) ?_
              · have hc := fun b o h => hE.cell (p := ⟨b, o, none⟩) h
                go_simp; refine ⟨Below.refl _ _, ?_⟩; rfl
              simp only [Act.put, List.setIfInBounds_toArray, List.set_cons_zero, List.set_cons_succ]
              refine wpParts_any rfl (BytesW.later) (by rfl) (fun W hE hN => ?_) (fun u5 => ?_)
              · go_simp; refine ⟨Below.refl _ _, ?_⟩; have h := Try_rBytes N ia none k ic 0 0 _ W (HNS.out.ext hE).s (fun b h => h) HOK.out; rw [HLF.out] at h; refine h.mono ?_; rintro e w' ⟨ea, en, ec, rfl, hK, hb⟩; exact ⟨_, rfl, hb, ea, en, ec, rfl, hK.at_⟩
              simp only [Act.put, List.setIfInBounds_toArray, List.set_cons_zero, List.set_cons_succ]
              refine wpParts_det (by rfl) (fun W hE hN => ?_) ?_
              · simp [near, Oper.looksAt, Op.operands, Call.operands] at hN; obtain ⟨ea, en, ec, rfl, hK⟩ := hN; have k1 := conv_bytes hK 22 9 5 Try.underlying22 Try.underlying5 Try.underlying9; go_simp; refine ⟨Below.refl _ _, ?_⟩; rfl
              simp only [Act.put, List.setIfInBounds_toArray, List.set_cons_zero, List.set_cons_succ]
              refine wpParts_det (by rfl) (fun W hE hN => ?_) ?_
              · go_simp; refine ⟨Below.refl _ _, ?_⟩; rfl
              simp only [Act.put, List.setIfInBounds_toArray, List.set_cons_zero, List.set_cons_succ]
              refine wpParts_det (by rfl) (fun W hE hN => ?_) ?_
              · have k1 := conv_bytes (HBR.out.ext hE) 22 9 5 Try.underlying22 Try.underlying5 Try.underlying9; go_simp; refine ⟨Below.refl _ _, ?_⟩; rfl
              simp only [Act.put, List.setIfInBounds_toArray, List.set_cons_zero, List.set_cons_succ]
              refine wpParts_det (by rfl) (fun W hE hN => ?_) ?_
              · go_simp; refine ⟨Below.refl _ _, ?_⟩; rfl
              simp only [Act.put, List.setIfInBounds_toArray, List.set_cons_zero, List.set_cons_succ]
              refine wpParts_det (by rfl) (fun W hE hN => ?_) ?_
              · go_simp; refine ⟨Below.refl _ _, ?_⟩; rfl
              simp only [Act.put, List.setIfInBounds_toArray, List.set_cons_zero, List.set_cons_succ]
              refine wpParts_end fun W9 hE9 hG9 => ?_
              have hcW9 := fun b o h => hE9.cell (p := ⟨b, o, none⟩) h
              have hfW9 := fun b o h => hE9.frozen (p := ⟨b, o, none⟩) h
              have q9 := HQR.out.ext hE9
              have e9 := q9.cells
              have g9 := q9.marks
              have h9 := q9.lt
              have p9 := HQN.out.ext hE9
              have e8 := p9.cells
              have g8 := p9.marks
              have h8 := p9.lt
              have HNS9 := Lib.hid (HNS.out.ext hE9)
              have HB9 := Lib.hid (HBL.out.trans (hE9.mono HBL.out.size))
              have hO9 := ((((Only.refl w.heap.size W9).set 0 (.bool true)).set 1 (.slice ia k ic)).set 2 (.slice none 0 0))
              have HO9 := Lib.hid hO9
              clear hE9 hG9 hcW9 hfW9 c1 m1 l1 d1 n1 o1 cm q9 p9 hO9
              go_wp2
              refine bodyPost_ret (v := .tuple #[.agg #[.bool true, .slice ia k ic, .slice none 0 0], .bool true]) (by simp [results, Try.results21, go_sem, *]) rfl ?_
              rw [HYES.out]
              refine ⟨ia, k, ic, none, 0, 0, by rw [HLF.out], (HNS9.out.same HO9.out.size (fun b h hlt => HO9.out.block b hlt (by rcases h with h | h; (have := HS.out b h; omega); omega))).mono (fun b h => h.imp id fun h => by omega), ?_⟩
              have h := HB9.out; have hsz := h.size; exact (by repeat (first | (with_reducible exact Below.refl _ _) | (with_reducible exact Below.refl _ _) | (with_reducible refine Below.setCell ?_ (by first | omega | (simp; done) | (simp; omega)) _) | (with_reducible refine Below.alloc ?_ (by first | omega | (simp; done) | (simp; omega)) _) | (with_reducible refine Below.drew ?_) | (with_reducible refine below_drewN ?_ _) | (with_reducible refine Below.trans ?_ (h.mono (by first | omega | (simp; done) | (simp; omega))))))
  · skip
    unfold advA at HD HDP
    simp only [if_neg hc2] at HD HDP
    have hc2' : ¬ c - 2 = 0 := by omega
    clear hcc
    obtain ⟨w2, hw2⟩ : ∃ w2, (w.alloc (.cells #[.bool false, .slice none 0 0, .slice none 0 0] 28)).alloc (.cells #[.bool true, .slice none 0 0, .slice none 0 0] 28) = w2 := ⟨_, rfl⟩
    have hb2 : Below w.heap.size w w2 := by rw [← hw2]; exact (by repeat (first | (with_reducible exact Below.refl _ _) | (with_reducible exact Below.refl _ _) | (with_reducible refine Below.setCell ?_ (by first | omega | (simp; done) | (simp; omega)) _) | (with_reducible refine Below.alloc ?_ (by first | omega | (simp; done) | (simp; omega)) _) | (with_reducible refine Below.drew ?_) | (with_reducible refine below_drewN ?_ _)))
    have HQ0 := Lib.hid (show Blk w2 w.heap.size [.bool false, .slice none 0 0, .slice none 0 0] 28 by rw [← hw2]; exact (Blk.new w _ _).alloc _)
    have HQ1 := Lib.hid (show Blk w2 (w.heap.size + 1) [.bool true, .slice none 0 0, .slice none 0 0] 28 by rw [← hw2]; exact Blk.new' _ _ _ (by simp))
    have HB2 := Lib.hid hb2
    have HD2 := Lib.hid (HD.out.ext hb2)
    have HW2 := Lib.hid hw2
    clear hb2 hw2
    go_enter Try.func21, Try.ntmps21
    go_wp2_with fail
    rw [HW2.out]
    clear HW2
    go_loopw [5, 6] (fun rv ix wr => RdI 28 56 S w mm (sevIL mm [] r) rv ix wr) (fun _ ix _ => mm - (intOf ix).toNat)
    case atStart => exact ⟨0, [], r, (some ⟨b, o + 2, none⟩), (n - 2), (c - 2), [], .slice none 0 0, Nat.zero_le _, rfl, rfl, HD2.out, HDP.out, rfl, World.ownsRow_nil _ _ _ _, ItemCells.nil, HQ0.out, HQ1.out, HB2.out⟩
    case round =>
      obtain ⟨k, acc, rr, ra, rn, rc, cs, v, hk, rfl, rfl, hR, hrp, hsev, hown, hcl, hq0, hq1, hbel⟩ := hrel
      have HR := Lib.hid hR
      have HRP := Lib.hid hrp
      have HSEV := Lib.hid hsev
      have HOW := Lib.hid hown
      have HCL := Lib.hid hcl
      have HQR := Lib.hid hq0
      have HQN := Lib.hid hq1
      have HBL := Lib.hid hbel
      have cm := ((after hbel).1 b (o + 1) hb).trans hc1
      have c1 := hq1.cells
      have m1 := hq1.marks
      have l1 := hq1.lt
      have hbw : b < wr.heap.size := Nat.lt_of_lt_of_le hb hbel.size
      clear hR hrp hsev hown hcl hq0 hq1 hbel
      by_cases hlt : k < mm
      · have hlt' : (k : Int) < (mm : Int) := by omega
        have HLT := Lib.hid hlt
        have hk6 : k ≤ 6 := by have := HM.out; omega
        have HXA := Lib.hid (Blk.new wr [.slice none 0 0, .slice none 0 0, .bool false, .int .i64 0] 56)
        have hba : Below wr.heap.size wr (wr.alloc (.cells #[.slice none 0 0, .slice none 0 0, .bool false, .int .i64 0] 56)) := (Below.refl _ _).alloc (Nat.le_refl _) _
        have HBA := Lib.hid hba
        have hit := Try_rItemAt S ra rn rc rr _ (HR.out.ext hba) HRP.out (fun b h => by have := HS.out b h; have := HBL.out.size; simp; omega)
        clear hlt hk hba
        cases hi : itemL rr with
        | none =>
          have HC := Lib.hid (hit.1 hi)
          have HNO := Lib.hid (show O = none by
            have h := HSEV.out
            rw [show mm - k = (mm - (k + 1)) + 1 by have := HLT.out; omega] at h
            rw [sevIL_none hi] at h
            rw [← HOO.out]
            unfold readL
            rw [HRAW.out, ← h]; rfl)
          clear hit hi
          go_wp2_with fail
          (with_reducible refine HC.out.mono ?_); rintro e w3 ⟨rfl, hb3⟩
          clear HC cm c1 m1 l1
          have hx3 := HXA.out.ext hb3
          obtain ⟨w4, hw4⟩ : ∃ w4, (((w3.setCell ⟨wr.heap.size, 0, none⟩ (.slice none 0 0)).setCell ⟨wr.heap.size, 1, none⟩ (.slice none 0 0)).setCell ⟨wr.heap.size, 2, none⟩ (.bool false)).setCell ⟨wr.heap.size, 3, none⟩ (.int .i64 0) = w4 := ⟨_, rfl⟩
          have hx4 : Blk w4 wr.heap.size [(.slice none 0 0), (.slice none 0 0), (.bool false), (.int .i64 0)] 56 := by rw [← hw4]; exact (((hx3.set 0 _).set 1 _).set 2 _).set 3 _
          have hO4 : Only wr.heap.size w3 w4 := by rw [← hw4]; exact ((((Only.refl wr.heap.size w3).set 0 _).set 1 _).set 2 _).set 3 _
          have hb34 : Below wr.heap.size wr w4 := below_only (HBA.out.trans (hb3.mono HBA.out.size)) hO4 (Nat.le_trans HBA.out.size hb3.size) (Nat.le_refl _)
          have hq0 := HQR.out.ext hb34
          have hq1 := HQN.out.ext hb34
          have HB4 := Lib.hid (HBL.out.trans (hb34.mono HBL.out.size))
          have HO4 := Lib.hid ((ownsRow_ext HOW.out hb34).alloc (.cells #[(.slice none 0 0), (.slice none 0 0), (.bool false), (.int .i64 0)] 56))
          have hs34 : w4.heap.size = w3.heap.size := by rw [← hw4]; simp
          have HSR := Lib.hid ((ownsRow_blk (n := 1) (size := 4) (base := w3.heap.size) (xs := [(.slice none 0 0), (.slice none 0 0), (.bool false), (.int .i64 0)]) (Blk.new' w4 [_, _, _, _] 56 hs34) (Nat.le_refl _) rfl (by unfold maxLen; omega)).cells (g := w3.heap.size) rfl)
          have HQ04 := Lib.hid hq0
          have HQ14 := Lib.hid hq1
          have HB34 := Lib.hid hb34
          have HW4 := Lib.hid hw4
          have hs4 : w.heap.size + 2 ≤ w4.heap.size := by have h1 := hb34.size; have h2 := HQN.out.lt; omega
          have HS4 := Lib.hid hs4
          have HON := Lib.hid hO4
          have x3 := hx3.cells
          have y3 := hx3.marks
          have z3 := hx3.lt
          have q3 := (HQN.out.ext (HBA.out.trans (hb3.mono HBA.out.size))).cells
          have q3m := (HQN.out.ext (HBA.out.trans (hb3.mono HBA.out.size))).marks
          have q3l := (HQN.out.ext (HBA.out.trans (hb3.mono HBA.out.size))).lt
          have hne : wr.heap.size ≠ w.heap.size + 1 := by have := HQN.out.lt; omega
          have hne' : w.heap.size + 1 ≠ wr.heap.size := by have := HQN.out.lt; omega
          obtain ⟨hi0, hz0, hz1, hz2⟩ := HI.out
          clear hb3 hx3 hx4 hO4 hb34 hq0 hq1 hw4 hs4 hs34
          go_wp2_with (at_builtin; rw [HW4.out]; refine wpList_append_own _ rfl (.tmp 44) (.tmp 46) 25 rfl (w.heap.size + 2) 56 i0 _ 4 64 Try.underlying25 hi0 hz0 hz1 hz2 rfl (by decide) v k cs rfl HO4.out ⟨w3.heap.size, 0, none⟩ 1 1 [(.slice none 0 0), (.slice none 0 0), (.bool false), (.int .i64 0)] rfl rfl HSR.out (by intro u hu; simp at hu; rcases hu with rfl | rfl | rfl | rfl <;> rfl) (by unfold maxLen; omega) (by omega) (by have := HS4.out; simp; omega) ?_; intro v' w6 hown6 hgrow _; obtain ⟨v6a, v6c, rfl⟩ := own_slice1 hown6; have hb6 : Below (w.heap.size + 2) w4 w6 := ((Below.refl (w.heap.size + 2) w4).alloc (by have := HS4.out; omega) (.cells #[(.slice none 0 0), (.slice none 0 0), (.bool false), (.int .i64 0)] 56)).grown hgrow (by have := HS4.out; simp; omega) (fun k hk => (HO4.out.lt k hk).1); have q06 := HQ04.out.below hb6 (by omega); have q16 := HQ14.out.below hb6 (by omega); have HB6 := Lib.hid hb6; have HOW6 := Lib.hid hown6; have HQ06 := Lib.hid q06; have HQ16 := Lib.hid q16; have c6 := q16.cells; have m6 := q16.marks; have l6 := q16.lt; have d6 := q06.cells; have n6 := q06.marks; have o6 := q06.lt; clear hb6 hown6 hgrow q06 q16 x3 y3 z3 q3 q3m q3l)
          have HBE := Lib.hid (HB4.out.trans (HB6.out.mono (by omega)))
          refine bodyPost_ret (v := .tuple #[.agg #[.bool false, .slice none 0 0, .slice none 0 0], .bool false]) (by simp [results, Try.results21, go_sem, *]) rfl ?_
          rw [HNO.out]
          refine ⟨rfl, ?_⟩
          have h := HBE.out; have hsz := h.size; exact (by repeat (first | (with_reducible exact Below.refl _ _) | (with_reducible exact Below.refl _ _) | (with_reducible refine Below.setCell ?_ (by first | omega | (simp; done) | (simp; omega)) _) | (with_reducible refine Below.alloc ?_ (by first | omega | (simp; done) | (simp; omega)) _) | (with_reducible refine Below.drew ?_) | (with_reducible refine below_drewN ?_ _) | (with_reducible refine Below.trans ?_ (h.mono (by first | omega | (simp; done) | (simp; omega))))))
        | some p =>
          obtain ⟨x, r'⟩ := p
          have HC := Lib.hid (hit.2 x r' hi)
          have HXN := Lib.hid (itemL_n hi)
          have HSEV2 := Lib.hid (show sevIL (mm - (k + 1)) (acc ++ [x]) r' = sevIL mm [] r by
            have h := HSEV.out
            rw [show mm - k = (mm - (k + 1)) + 1 by have := HLT.out; omega, sevIL_some hi] at h
            exact h)
          clear hit hi
          go_wp2_with fail
          (with_reducible refine HC.out.mono ?_); rintro e w3 ⟨ka, kn, kc, va, vn, vc, ta, tn, tc, rfl, hK, hV, hT, htp, hb3⟩
          have HK3 := Lib.hid hK
          have HV3 := Lib.hid hV
          have HT3 := Lib.hid hT
          have HTP := Lib.hid htp
          have HS3 := Lib.hid (show wr.heap.size ≤ w3.heap.size from Nat.le_trans HBA.out.size hb3.size)
          clear HC cm c1 m1 l1 hK hV hT htp
          simp only [itemCellV]
          obtain ⟨xi, hxi⟩ : ∃ b, x.int = b := ⟨_, rfl⟩
          obtain ⟨xn, hxn⟩ : ∃ b, x.n = b := ⟨_, rfl⟩
          rw [hxi, hxn]
          have HXI := Lib.hid (And.intro hxi hxn)
          clear hxi hxn
          have hx3 := HXA.out.ext hb3
          obtain ⟨w4, hw4⟩ : ∃ w4, (((w3.setCell ⟨wr.heap.size, 0, none⟩ (.slice ka kn kc)).setCell ⟨wr.heap.size, 1, none⟩ (.slice va vn vc)).setCell ⟨wr.heap.size, 2, none⟩ (.bool xi)).setCell ⟨wr.heap.size, 3, none⟩ (.int .i64 xn) = w4 := ⟨_, rfl⟩
          have hx4 : Blk w4 wr.heap.size [(.slice ka kn kc), (.slice va vn vc), (.bool xi), (.int .i64 xn)] 56 := by rw [← hw4]; exact (((hx3.set 0 _).set 1 _).set 2 _).set 3 _
          have hO4 : Only wr.heap.size w3 w4 := by rw [← hw4]; exact ((((Only.refl wr.heap.size w3).set 0 _).set 1 _).set 2 _).set 3 _
          have hb34 : Below wr.heap.size wr w4 := below_only (HBA.out.trans (hb3.mono HBA.out.size)) hO4 (Nat.le_trans HBA.out.size hb3.size) (Nat.le_refl _)
          have hq0 := HQR.out.ext hb34
          have hq1 := HQN.out.ext hb34
          have HB4 := Lib.hid (HBL.out.trans (hb34.mono HBL.out.size))
          have HO4 := Lib.hid ((ownsRow_ext HOW.out hb34).alloc (.cells #[(.slice ka kn kc), (.slice va vn vc), (.bool xi), (.int .i64 xn)] 56))
          have hs34 : w4.heap.size = w3.heap.size := by rw [← hw4]; simp
          have HSR := Lib.hid ((ownsRow_blk (n := 1) (size := 4) (base := w3.heap.size) (xs := [(.slice ka kn kc), (.slice va vn vc), (.bool xi), (.int .i64 xn)]) (Blk.new' w4 [_, _, _, _] 56 hs34) (Nat.le_refl _) rfl (by unfold maxLen; omega)).cells (g := w3.heap.size) rfl)
          have HQ04 := Lib.hid hq0
          have HQ14 := Lib.hid hq1
          have HB34 := Lib.hid hb34
          have HW4 := Lib.hid hw4
          have hs4 : w.heap.size + 2 ≤ w4.heap.size := by have h1 := hb34.size; have h2 := HQN.out.lt; omega
          have HS4 := Lib.hid hs4
          have HON := Lib.hid hO4
          have x3 := hx3.cells
          have y3 := hx3.marks
          have z3 := hx3.lt
          have q3 := (HQN.out.ext (HBA.out.trans (hb3.mono HBA.out.size))).cells
          have q3m := (HQN.out.ext (HBA.out.trans (hb3.mono HBA.out.size))).marks
          have q3l := (HQN.out.ext (HBA.out.trans (hb3.mono HBA.out.size))).lt
          have hne : wr.heap.size ≠ w.heap.size + 1 := by have := HQN.out.lt; omega
          have hne' : w.heap.size + 1 ≠ wr.heap.size := by have := HQN.out.lt; omega
          obtain ⟨hi0, hz0, hz1, hz2⟩ := HI.out
          clear hb3 hx3 hx4 hO4 hb34 hq0 hq1 hw4 hs4 hs34
          go_wp2_with (at_builtin; rw [HW4.out]; refine wpList_append_own _ rfl (.tmp 44) (.tmp 46) 25 rfl (w.heap.size + 2) 56 i0 _ 4 64 Try.underlying25 hi0 hz0 hz1 hz2 rfl (by decide) v k cs rfl HO4.out ⟨w3.heap.size, 0, none⟩ 1 1 [(.slice ka kn kc), (.slice va vn vc), (.bool xi), (.int .i64 xn)] rfl rfl HSR.out (by intro u hu; simp at hu; rcases hu with rfl | rfl | rfl | rfl <;> rfl) (by unfold maxLen; omega) (by omega) (by have := HS4.out; simp; omega) ?_; intro v' w6 hown6 hgrow _; obtain ⟨v6a, v6c, rfl⟩ := own_slice1 hown6; have hb6 : Below (w.heap.size + 2) w4 w6 := ((Below.refl (w.heap.size + 2) w4).alloc (by have := HS4.out; omega) (.cells #[(.slice ka kn kc), (.slice va vn vc), (.bool xi), (.int .i64 xn)] 56)).grown hgrow (by have := HS4.out; simp; omega) (fun k hk => (HO4.out.lt k hk).1); have q06 := HQ04.out.below hb6 (by omega); have q16 := HQ14.out.below hb6 (by omega); have HB6 := Lib.hid hb6; have HOW6 := Lib.hid hown6; have HQ06 := Lib.hid q06; have HQ16 := Lib.hid q16; have c6 := q16.cells; have m6 := q16.marks; have l6 := q16.lt; have d6 := q06.cells; have n6 := q06.marks; have o6 := q06.lt; clear hb6 hown6 hgrow q06 q16 x3 y3 z3 q3 q3m q3l)
          have hsz : w.heap.size + 2 ≤ wr.heap.size := by have := HQN.out.lt; omega
          have hkeep : ∀ j, j < w.heap.size → (w6.setCell ⟨w.heap.size + 1, 1, none⟩ (.slice v6a (k + 1) v6c)).heap[j]? = w3.heap[j]? := fun j hj =>
            (Below.heap_setCell w6 ⟨w.heap.size + 1, 1, none⟩ _ j (fun e => by have e2 : j = w.heap.size + 1 := e; omega)).trans ((HB6.out.block j (by omega)).trans (HON.out.block j (by have := HS3.out; omega) (by omega)))
          have hgw : w3.heap.size ≤ (w6.setCell ⟨w.heap.size + 1, 1, none⟩ (.slice v6a (k + 1) v6c)).heap.size := by have h1 := HON.out.size; have h2 := HB6.out.size; simp; omega
          have hkr : ∀ j, j < w.heap.size → (w6.setCell ⟨w.heap.size + 1, 1, none⟩ (.slice v6a (k + 1) v6c)).heap[j]? = wr.heap[j]? := fun j hj =>
            (Below.heap_setCell w6 ⟨w.heap.size + 1, 1, none⟩ _ j (fun e => by have e2 : j = w.heap.size + 1 := e; omega)).trans ((HB6.out.block j (by omega)).trans (HB34.out.block j (by omega)))
          have hgr : wr.heap.size ≤ (w6.setCell ⟨w.heap.size + 1, 1, none⟩ (.slice v6a (k + 1) v6c)).heap.size := by have h1 := HB34.out.size; have h2 := HB6.out.size; simp; omega
          have HBE := Lib.hid ((HB4.out.trans (HB6.out.mono (by omega))).setCell (p := ⟨w.heap.size + 1, 1, none⟩) (by show w.heap.size ≤ w.heap.size + 1; omega) (.slice v6a (k + 1) v6c))
          have HT7 := Lib.hid (HT3.out.same hgw fun b h _ => hkeep b (HS.out b h))
          have HC7 := Lib.hid ((HCL.out.same hgr fun b h _ => hkr b (HS.out b h)).snoc (x := x) (HK3.out.same hgw fun b h _ => hkeep b (HS.out b h)) (HV3.out.same hgw fun b h _ => hkeep b (HS.out b h)) HXN.out)
          rw [HXI.out.1, HXI.out.2] at HC7
          have HO7 := Lib.hid (ownsRow_setCell_below HOW6.out (a := ⟨w.heap.size + 1, 1, none⟩) (by show w.heap.size + 1 < w.heap.size + 2; omega) (.slice v6a (k + 1) v6c))
          clear hkeep hgw hkr hgr
          go_roundw
          case rel => exact ⟨k + 1, acc ++ [x], r', ta, tn, tc, _, _, HLT.out, by go_num, rfl, HT7.out, HTP.out, HSEV2.out, HO7.out, HC7.out, HQ06.out.other (by omega) _ _, HQ16.out.set 1 _, HBE.out⟩
          case measure => simp [intOf]; have := HLT.out; omega
      · obtain rfl : k = mm := by omega
        have hlt' : ¬ (k : Int) < (k : Int) := by omega
        obtain ⟨ia, ic, rfl, hIS⟩ := HCL.out.shut HOW.out (by have := HM.out; omega)
        have hNS : NodeS wr (fun b => S b ∨ w.heap.size + 2 ≤ b) ia k ic none 0 0 ⟨true, acc, []⟩ := ⟨hIS, KidsS.nil_⟩
        have hO : O = if nodeOk ⟨true, acc, []⟩ = true ∧ nodeBytes ⟨true, acc, []⟩ = f :: m :: r then some ⟨true, acc, []⟩ else none := by
          have h := HSEV.out
          rw [Nat.sub_self] at h
          rw [← HOO.out]
          unfold readL
          rw [HRAW.out, ← h]; rfl
        obtain ⟨N, hN⟩ : ∃ N : NodeD, (⟨true, acc, []⟩ : NodeD) = N := ⟨_, rfl⟩
        have hlf : N.leaf = true := by rw [← hN]
        rw [hN] at hNS hO
        have HNS := Lib.hid hNS
        have HLF := Lib.hid hlf
        have HOE := Lib.hid hO
        have HBR := Lib.hid (HB.out.at_.ext HBL.out)
        have d1 := HQR.out.cells
        have n1 := HQR.out.marks
        have o1 := HQR.out.lt
        obtain ⟨ls, hls⟩ : ∃ ls, f :: m :: r = ls := ⟨_, rfl⟩
        rw [hls] at HOE HBR
        clear hlt hk hIS hNS hO hN hlf hls
        cases hok : nodeOk N with
        | false =>
          have HNO := Lib.hid (show O = none by rw [HOE.out, if_neg (by rw [hok]; simp)])
          have HOK := Lib.hid hok
          clear hok
          go_wp2_with fail
          refine' wp_region_seq [.inl _, .inl _, .inl _, .inl _, .inl undef, .inl undef, .inl undef, .inl undef, .inl undef, .inl undef, .inl _] (by kernel_rfl) (by kernel_rfl) ?main4
          case main4 =>
            refine wpParts_det (by rfl) (fun W hE hN => ?_) ?_
            · have hc := fun b o h => hE.cell (p := ⟨b, o, none⟩) h
              go_simp; refine ⟨Below.refl _ _, ?_⟩; rfl
            simp only [Act.put, List.setIfInBounds_toArray, List.set_cons_zero, List.set_cons_succ]
            refine wpParts_det (by rfl) (fun W hE hN => ?_) ?_
            · go_simp; refine ⟨Below.refl _ _, ?_⟩; have h := Try_rRight N ia none k ic 0 0 _ W (HNS.out.ext hE); rw [HLF.out, HOK.out] at h; refine h.mono ?_; rintro e w' ⟨rfl, hb⟩; refine ⟨?_, hb⟩; rfl
            simp only [Act.put, List.setIfInBounds_toArray, List.set_cons_zero, List.set_cons_succ]
            refine wpParts_det (by rfl) (fun W hE hN => ?_) ?_
            · go_simp; refine ⟨Below.refl _ _, ?_⟩; rfl
            simp only [Act.put, List.setIfInBounds_toArray, List.set_cons_zero, List.set_cons_succ]
            refine wpParts_det (by rfl) (fun W hE hN => ?_) ?_
            · go_simp; refine ⟨Below.refl _ _, ?_⟩; rfl
            simp only [Act.put, List.setIfInBounds_toArray, List.set_cons_zero, List.set_cons_succ]
            refine wpParts_skip ?_ ?_
            · rfl
            simp only [Act.put, List.setIfInBounds_toArray, List.set_cons_zero, List.set_cons_succ]
            refine wpParts_skip ?_ ?_
            · rfl
            simp only [Act.put, List.setIfInBounds_toArray, List.set_cons_zero, List.set_cons_succ]
            refine wpParts_skip ?_ ?_
            · rfl
            simp only [Act.put, List.setIfInBounds_toArray, List.set_cons_zero, List.set_cons_succ]
            refine wpParts_skip ?_ ?_
            · rfl
            simp only [Act.put, List.setIfInBounds_toArray, List.set_cons_zero, List.set_cons_succ]
            refine wpParts_skip ?_ ?_
            · rfl
            simp only [Act.put, List.setIfInBounds_toArray, List.set_cons_zero, List.set_cons_succ]
            refine wpParts_skip ?_ ?_
            · rfl
            simp only [Act.put, List.setIfInBounds_toArray, List.set_cons_zero, List.set_cons_succ]
            refine wpParts_det (by rfl) (fun W hE hN => ?_) ?_
            · go_simp; refine ⟨Below.refl _ _, ?_⟩; rfl
            simp only [Act.put, List.setIfInBounds_toArray, List.set_cons_zero, List.set_cons_succ]
            refine wpParts_end fun W9 hE9 hG9 => ?_
            have hcW9 := fun b o h => hE9.cell (p := ⟨b, o, none⟩) h
            have hfW9 := fun b o h => hE9.frozen (p := ⟨b, o, none⟩) h
            have q9 := HQR.out.ext hE9
            have e9 := q9.cells
            have g9 := q9.marks
            have h9 := q9.lt
            have HB9 := Lib.hid (HBL.out.trans (hE9.mono HBL.out.size))
            clear hE9 hG9 hcW9 hfW9 c1 m1 l1 d1 n1 o1 cm q9
            go_wp2
            refine bodyPost_ret (v := .tuple #[.agg #[.bool false, .slice none 0 0, .slice none 0 0], .bool false]) (by simp [results, Try.results21, go_sem, *]) rfl ?_
            rw [HNO.out]
            refine ⟨rfl, ?_⟩
            have h := HB9.out; have hsz := h.size; exact (by repeat (first | (with_reducible exact Below.refl _ _) | (with_reducible exact Below.refl _ _) | (with_reducible refine Below.setCell ?_ (by first | omega | (simp; done) | (simp; omega)) _) | (with_reducible refine Below.alloc ?_ (by first | omega | (simp; done) | (simp; omega)) _) | (with_reducible refine Below.drew ?_) | (with_reducible refine below_drewN ?_ _) | (with_reducible refine Below.trans ?_ (h.mono (by first | omega | (simp; done) | (simp; omega))))))
        | true =>
          have HOK := Lib.hid hok
          clear hok
          obtain ⟨q, hq⟩ : ∃ q, decide (nodeBytes N = ls) = q := ⟨_, rfl⟩
          have hq1 : (nodeBytes N == ls) = q := by rw [list_beq, hq]
          have hq2 : (nodeBytes N != ls) = !q := by rw [bne, list_beq, hq]
          have HQQ := Lib.hid hq
          clear hq
          cases q with
          | false =>
            have HNO := Lib.hid (show O = none by rw [HOE.out, if_neg (fun h => of_decide_eq_false HQQ.out h.2)])
            go_wp2_with fail
            refine' wp_region_seq [.inl _, .inl _, .inl _, .inl _, .inl _, .inr (BytesW (nodeBytes N)), .inl _, .inl _, .inl _, .inl _, .inl _] (by kernel_rfl) (by kernel_rfl) ?main5
            case main5 =>
              refine wpParts_det (by rfl) (fun W hE hN => ?_) ?_
              · have hc := fun b o h => hE.cell (p := ⟨b, o, none⟩) h
                go_simp; refine ⟨Below.refl _ _, ?_⟩; rfl
              simp only [Act.put, List.setIfInBounds_toArray, List.set_cons_zero, List.set_cons_succ]
              refine wpParts_det (by rfl) (fun W hE hN => ?_) ?_
              · go_simp; refine ⟨Below.refl _ _, ?_⟩; have h := Try_rRight N ia none k ic 0 0 _ W (HNS.out.ext hE); rw [HLF.out, HOK.out] at h; refine h.mono ?_; rintro e w' ⟨rfl, hb⟩; refine ⟨?_, hb⟩; rfl
              simp only [Act.put, List.setIfInBounds_toArray, List.set_cons_zero, List.set_cons_succ]
              refine wpParts_det (by rfl) (fun W hE hN => ?_) ?_
              · go_simp; refine ⟨Below.refl _ _, ?_⟩; rfl
              simp only [Act.put, List.setIfInBounds_toArray, List.set_cons_zero, List.set_cons_succ]
              refine wpParts_det (by rfl) (fun W hE hN => ?_) ?_
              · go_simp; refine ⟨Below.refl _ _, ?_⟩; rfl
              simp only [Act.put, List.setIfInBounds_toArray, List.set_cons_zero, List.set_cons_succ]
              refine wpParts_det (by rfl) (fun W hE hN => ?_) ?_
              · have hc := fun b o h => hE.cell (p := ⟨b, o, none⟩) h
                go_simp; refine ⟨Below.refl _ _, ?_⟩; rfl
              simp only [Act.put, List.setIfInBounds_toArray, List.set_cons_zero, List.set_cons_succ]
              refine wpParts_any rfl (BytesW.later) (by rfl) (fun W hE hN => ?_) (fun u5 => ?_)
              · go_simp; refine ⟨Below.refl _ _, ?_⟩; have h := Try_rBytes N ia none k ic 0 0 _ W (HNS.out.ext hE).s (fun b h => h) HOK.out; rw [HLF.out] at h; refine h.mono ?_; rintro e w' ⟨ea, en, ec, rfl, hK, hb⟩; exact ⟨_, rfl, hb, ea, en, ec, rfl, hK.at_⟩
              simp only [Act.put, List.setIfInBounds_toArray, List.set_cons_zero, List.set_cons_succ]
              refine wpParts_det (by rfl) (fun W hE hN => ?_) ?_
              · simp [near, Oper.looksAt, Op.operands, Call.operands] at hN; obtain ⟨ea, en, ec, rfl, hK⟩ := hN; have k1 := conv_bytes hK 22 9 5 Try.underlying22 Try.underlying5 Try.underlying9; go_simp; refine ⟨Below.refl _ _, ?_⟩; rfl
              simp only [Act.put, List.setIfInBounds_toArray, List.set_cons_zero, List.set_cons_succ]
              refine wpParts_det (by rfl) (fun W hE hN => ?_) ?_
              · go_simp; refine ⟨Below.refl _ _, ?_⟩; rfl
              simp only [Act.put, List.setIfInBounds_toArray, List.set_cons_zero, List.set_cons_succ]
              refine wpParts_det (by rfl) (fun W hE hN => ?_) ?_
              · have k1 := conv_bytes (HBR.out.ext hE) 22 9 5 Try.underlying22 Try.underlying5 Try.underlying9; go_simp; refine ⟨Below.refl _ _, ?_⟩; rfl
              simp only [Act.put, List.setIfInBounds_toArray, List.set_cons_zero, List.set_cons_succ]
              refine wpParts_det (by rfl) (fun W hE hN => ?_) ?_
              · go_simp; refine ⟨Below.refl _ _, ?_⟩; rfl
              simp only [Act.put, List.setIfInBounds_toArray, List.set_cons_zero, List.set_cons_succ]
              refine wpParts_det (by rfl) (fun W hE hN => ?_) ?_
              · go_simp; refine ⟨Below.refl _ _, ?_⟩; rfl
              simp only [Act.put, List.setIfInBounds_toArray, List.set_cons_zero, List.set_cons_succ]
              refine wpParts_end fun W9 hE9 hG9 => ?_
              have hcW9 := fun b o h => hE9.cell (p := ⟨b, o, none⟩) h
              have hfW9 := fun b o h => hE9.frozen (p := ⟨b, o, none⟩) h
              have q9 := HQR.out.ext hE9
              have e9 := q9.cells
              have g9 := q9.marks
              have h9 := q9.lt
              have HB9 := Lib.hid (HBL.out.trans (hE9.mono HBL.out.size))
              clear hE9 hG9 hcW9 hfW9 c1 m1 l1 d1 n1 o1 cm q9
              go_wp2
              refine bodyPost_ret (v := .tuple #[.agg #[.bool false, .slice none 0 0, .slice none 0 0], .bool false]) (by simp [results, Try.results21, go_sem, *]) rfl ?_
              rw [HNO.out]
              refine ⟨rfl, ?_⟩
              have h := HB9.out; have hsz := h.size; exact (by repeat (first | (with_reducible exact Below.refl _ _) | (with_reducible exact Below.refl _ _) | (with_reducible refine Below.setCell ?_ (by first | omega | (simp; done) | (simp; omega)) _) | (with_reducible refine Below.alloc ?_ (by first | omega | (simp; done) | (simp; omega)) _) | (with_reducible refine Below.drew ?_) | (with_reducible refine below_drewN ?_ _) | (with_reducible refine Below.trans ?_ (h.mono (by first | omega | (simp; done) | (simp; omega))))))
          | true =>
            have HYES := Lib.hid (show O = some N by rw [HOE.out, if_pos ⟨HOK.out, of_decide_eq_true HQQ.out⟩])
            go_wp2_with fail
            refine' wp_region_seq [.inl _, .inl _, .inl _, .inl _, .inl _, .inr (BytesW (nodeBytes N)), .inl _, .inl _, .inl _, .inl _, .inl _] (by kernel_rfl) (by kernel_rfl) ?main6
            case main6 =>
              refine wpParts_det (by rfl) (fun W hE hN => ?_) ?_
              · have hc := fun b o h => hE.cell (p := ⟨b, o, none⟩) h
                go_simp; refine ⟨Below.refl _ _, ?_⟩; rfl
              simp only [Act.put, List.setIfInBounds_toArray, List.set_cons_zero, List.set_cons_succ]
              refine wpParts_det (by rfl) (fun W hE hN => ?_) ?_
              · go_simp; refine ⟨Below.refl _ _, ?_⟩; have h := Try_rRight N ia none k ic 0 0 _ W (HNS.out.ext hE); rw [HLF.out, HOK.out] at h; refine h.mono ?_; rintro e w' ⟨rfl, hb⟩; refine ⟨?_, hb⟩; rfl
              simp only [Act.put, List.setIfInBounds_toArray, List.set_cons_zero, List.set_cons_succ]
              refine wpParts_det (by rfl) (fun W hE hN => ?_) ?_
              · go_simp; refine ⟨Below.refl _ _, ?_⟩; rfl
              simp only [Act.put, List.setIfInBounds_toArray, List.set_cons_zero, List.set_cons_succ]
              refine wpParts_det (by rfl) (fun W hE hN => ?_) ?_
              · go_simp; refine ⟨Below.refl _ _, ?_⟩; rfl
              simp only [Act.put, List.setIfInBounds_toArray, List.set_cons_zero, List.set_cons_succ]
              refine wpParts_det (by rfl) (fun W hE hN => ?_) ?_
              · have hc := fun b o h => hE.cell (p := ⟨b, o, none⟩) h
                go_simp; refine ⟨Below.refl _ _, ?_⟩; rfl
              simp only [Act.put, List.setIfInBounds_toArray, List.set_cons_zero, List.set_cons_succ]
              refine wpParts_any rfl (BytesW.later) (by rfl) (fun W hE hN => ?_) (fun u5 => ?_)
              · go_simp; refine ⟨Below.refl _ _, ?_⟩; have h := Try_rBytes N ia none k ic 0 0 _ W (HNS.out.ext hE).s (fun b h => h) HOK.out; rw [HLF.out] at h; refine h.mono ?_; rintro e w' ⟨ea, en, ec, rfl, hK, hb⟩; exact ⟨_, rfl, hb, ea, en, ec, rfl, hK.at_⟩
              simp only [Act.put, List.setIfInBounds_toArray, List.set_cons_zero, List.set_cons_succ]
              refine wpParts_det (by rfl) (fun W hE hN => ?_) ?_
              · simp [near, Oper.looksAt, Op.operands, Call.operands] at hN; obtain ⟨ea, en, ec, rfl, hK⟩ := hN; have k1 := conv_bytes hK 22 9 5 Try.underlying22 Try.underlying5 Try.underlying9; go_simp; refine ⟨Below.refl _ _, ?_⟩; rfl
              simp only [Act.put, List.setIfInBounds_toArray, List.set_cons_zero, List.set_cons_succ]
              refine wpParts_det (by rfl) (fun W hE hN => ?_) ?_
              · go_simp; refine ⟨Below.refl _ _, ?_⟩; rfl
              simp only [Act.put, List.setIfInBounds_toArray, List.set_cons_zero, List.set_cons_succ]
              refine wpParts_det (by rfl) (fun W hE hN => ?_) ?_
              · have k1 := conv_bytes (HBR.out.ext hE) 22 9 5 Try.underlying22 Try.underlying5 Try.underlying9; go_simp; refine ⟨Below.refl _ _, ?_⟩; rfl
              simp only [Act.put, List.setIfInBounds_toArray, List.set_cons_zero, List.set_cons_succ]
              refine wpParts_det (by rfl) (fun W hE hN => ?_) ?_
              · go_simp; refine ⟨Below.refl _ _, ?_⟩; rfl
              simp only [Act.put, List.setIfInBounds_toArray, List.set_cons_zero, List.set_cons_succ]
              refine wpParts_det (by rfl) (fun W hE hN => ?_) ?_
              · go_simp; refine ⟨Below.refl _ _, ?_⟩; rfl
              simp only [Act.put, List.setIfInBounds_toArray, List.set_cons_zero, List.set_cons_succ]
              refine wpParts_end fun W9 hE9 hG9 => ?_
              have hcW9 := fun b o h => hE9.cell (p := ⟨b, o, none⟩) h
              have hfW9 := fun b o h => hE9.frozen (p := ⟨b, o, none⟩) h
              have q9 := HQR.out.ext hE9
              have e9 := q9.cells
              have g9 := q9.marks
              have h9 := q9.lt
              have p9 := HQN.out.ext hE9
              have e8 := p9.cells
              have g8 := p9.marks
              have h8 := p9.lt
              have HNS9 := Lib.hid (HNS.out.ext hE9)
              have HB9 := Lib.hid (HBL.out.trans (hE9.mono HBL.out.size))
              have hO9 := ((((Only.refl w.heap.size W9).set 0 (.bool true)).set 1 (.slice ia k ic)).set 2 (.slice none 0 0))
              have HO9 := Lib.hid hO9
              clear hE9 hG9 hcW9 hfW9 c1 m1 l1 d1 n1 o1 cm q9 p9 hO9
              go_wp2
              refine bodyPost_ret (v := .tuple #[.agg #[.bool true, .slice ia k ic, .slice none 0 0], .bool true]) (by simp [results, Try.results21, go_sem, *]) rfl ?_
              rw [HYES.out]
              refine ⟨ia, k, ic, none, 0, 0, by rw [HLF.out], (HNS9.out.same HO9.out.size (fun b h hlt => HO9.out.block b hlt (by rcases h with h | h; (have := HS.out b h; omega); omega))).mono (fun b h => h.imp id fun h => by omega), ?_⟩
              have h := HB9.out; have hsz := h.size; exact (by repeat (first | (with_reducible exact Below.refl _ _) | (with_reducible exact Below.refl _ _) | (with_reducible refine Below.setCell ?_ (by first | omega | (simp; done) | (simp; omega)) _) | (with_reducible refine Below.alloc ?_ (by first | omega | (simp; done) | (simp; omega)) _) | (with_reducible refine Below.drew ?_) | (with_reducible refine below_drewN ?_ _) | (with_reducible refine Below.trans ?_ (h.mono (by first | omega | (simp; done) | (simp; omega))))))
end Go.Proofs.Ytfhhcpolicdfpaa
