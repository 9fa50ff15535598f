/-
  The law of layer 14: NodeReads, walked.
-/
import Derived.Test.YtfhhcpolicdfpaaQNodBN
import Derived.Test.YtfhhcpolicdfpaaQLawNG
import Derived.Test.YtfhhcpolicdfpaaNdP
import Derived.Test.YtfhhcpolicdfpaaQLawNA
namespace Go.Dav
set_option linter.unusedVariables false
set_option linter.unusedSimpArgs false
open Go Go.RowKit
theorem readL_long {l : List UInt8} (h : l.length < 2) : readL l = none := by
  match l, h with
  | [], _ => rfl
  | [_], _ => rfl
end Go.Dav
namespace Go.Proofs.Ytfhhcpolicdfpaa
set_option linter.unusedVariables false
set_option linter.unusedSimpArgs false
open Go.RowKit Go.Dav
attribute [local go_sem] Gives ite_val ite_val_true
theorem Try_rRead (S : Nat → Prop) (a : Option Addr) (n c : Nat) (l : List UInt8) (w : World) (hB : BytesS w S a n c l) (hf : plainA a) (hS : ∀ b, S b → b < w.heap.size) :
    Calls Try.prog 21 #[.slice a n c] w (GivesRd S w (readL l)) := by
  have hl := hB.at_.hlen
  by_cases h2 : l.length < 2
  · rw [readL_long h2]
    exact Try_rRead_short a n c w (by omega)
  · match l, h2 with
    | f :: m :: r, _ =>
      by_cases hm : m.toNat ≤ 6
      · by_cases hf1 : f.toNat = 1
        · exact Try_rRead_leaf S a n c f m r w hB hf hS hf1 hm
        · exact Try_rRead_inner S a n c f m r w hB hf hS hf1 hm
      · have e : readL (f :: m :: r) = none := by unfold readL; rw [rawL_cons, if_neg hm]
        rw [e]
        exact Try_rRead_big S a n c f m r w hB hm
    | [], h => exact absurd (by simp) h
    | [_], h => exact absurd (by simp) h
set_option maxHeartbeats 1000000 in
theorem Try_sClone (a : Option Addr) (al ac : Nat) (x : List UInt8) (S : Nat → Prop) (w : World) (hx : BytesS w S a al ac x) :
    Calls Try.prog 20 #[.slice a al ac] w (GivesCopy w x) := by
  cases a with
  | none =>
    have h0 := hx.at_.hnil rfl
    have h1 := hx.at_.hcap
    obtain rfl : al = 0 := by omega
    subst h0
    have hx0 : x = [] := List.length_eq_zero_iff.1 hx.at_.hlen
    subst hx0
    clear hx h1
    have knil := @Try_eqNil
    go_enter Try.func20, Try.ntmps20
    go_wp2
    go_ret
    exact ⟨none, 0, 0, rfl, BytesS.nil_, .inl rfl, (by repeat (first | (with_reducible exact Below.refl _ _) | (with_reducible exact Below.refl _ _) | (with_reducible refine Below.setCell ?_ (by first | omega | (simp; done) | (simp; omega)) _) | (with_reducible refine Below.alloc ?_ (by first | omega | (simp; done) | (simp; omega)) _) | (with_reducible refine Below.drew ?_) | (with_reducible refine below_drewN ?_ _)))⟩
  | some ad =>
    have hc := (hx.cells.ext ((Below.refl _ w).alloc (Nat.le_refl _) (.cells #[] 5)))
    have hf := hx.at_.hfew
    have HX := Lib.hid hc
    clear hx hc
    have knil := @Try_eqNil
    go_enter Try.func20, Try.ntmps20
    have hown := World.ownsRow_made (e := 5) (size := 1) w #[] 0 (Nat.le_refl _) (by unfold maxLen; omega) rfl
    go_wp2_with (at_builtin; refine wpList_append_rowS rfl (.tmp 5) (.tmp 6) 22 rfl Try_elemU8 w.heap.size _ 0 [] rfl hown S (some ad) al ac (u8s x) rfl HX.out (u8s_one x) (fun h => by cases h) (by unfold maxLen; omega) (by omega) (by simp) ?_; intro v' w1 hown1 hgrow)
    rw [Nat.zero_add, List.nil_append] at hown1
    obtain ⟨a', c', rfl, hB, hp⟩ := own_copy hown1 hf
    have hbel : Below w.heap.size w w1 := ((Below.refl _ w).alloc (Nat.le_refl _) _).grown hgrow (by simp) (fun k hk => (hown.lt k hk).1)
    have HP := Lib.hid hp
    clear hown1 hgrow hp
    go_wp2
    go_ret
    exact ⟨a', al, c', rfl, hB, HP.out, hbel⟩
theorem Try_noneN (ia ka : Option Addr) (ic kc : Nat) (w : World) : Calls Try.prog 22 #[.agg #[.bool false, .slice ia 0 ic, .slice ka 0 kc]] w fun e w' => e = .returned (.bool true) ∧ Below w.heap.size w w' := by
  go_enter Try.func22, Try.ntmps22
  go_wp2
  go_ret
  exact ⟨rfl, (by repeat (first | (with_reducible exact Below.refl _ _) | (with_reducible exact Below.refl _ _) | (with_reducible refine Below.setCell ?_ (by first | omega | (simp; done) | (simp; omega)) _) | (with_reducible refine Below.alloc ?_ (by first | omega | (simp; done) | (simp; omega)) _) | (with_reducible refine Below.drew ?_) | (with_reducible refine below_drewN ?_ _)))⟩
set_option maxRecDepth 8000 in
set_option maxHeartbeats 8000000 in
theorem Try_NodeReads (xa : Option Addr) (xn xc : Nat) (X : List UInt8) (w : World) (hx : BytesAt w xa xn xc X) :
    Calls Try.prog 5 #[.slice xa xn xc] w fun e w' => e = .returned (.bool true) ∧ Below w.heap.size w w' := by
  have hcap := hx.hcap
  obtain ⟨mi, hmi⟩ : ∃ m, m = min xn 3000 := ⟨_, rfl⟩
  have HMI := Lib.hid (show (if 3000 < (xn : Int) then 3000 else (xn : Int)) = ((mi : Nat) : Int) by split <;> omega)
  have HMQ := Lib.hid (show mi ≤ xn by omega)
  have hi1 : ¬ ((mi : Nat) : Int) < 0 := by omega
  have hi2 : ((mi : Nat) : Int) ≤ (xc : Int) := by omega
  have hmn := HMI.out
  have HX := Lib.hid hx
  clear hx hmi
  go_enter Try.func5, Try.ntmps5
  go_wp2_with fail
  (with_reducible refine (Try_wakes14 _).mono ?_); rintro e w1 ⟨rfl, hb1⟩
  have HB1 := Lib.hid hb1
  have hcl := Try_sClone xa mi xc (X.take mi) _ w1 ((HX.out.ext hb1).s.takeC HMQ.out)
  have HCL := Lib.hid hcl
  clear hb1 hcl
  go_wp2_with fail
  (with_reducible refine HCL.out.mono ?_); rintro e w2 ⟨ba, bn, bc, rfl, hB, hp, hb2⟩
  obtain rfl : bn = mi := by
    have h1 := hB.at_.hlen
    rw [List.length_take, HX.out.hlen] at h1
    have := HMQ.out
    omega
  obtain ⟨l, hl⟩ : ∃ l, X.take bn = l := ⟨_, rfl⟩
  rw [hl] at hB
  have HL := Lib.hid hl
  have HB2 := Lib.hid (HB1.out.trans (hb2.mono HB1.out.size))
  have HBY := Lib.hid hB.at_
  have HP := Lib.hid hp
  have hd := Try_Decode (fun b => b < w2.heap.size) ba bn bc l w2 hB.at_.s hp (fun b h => h)
  have HD := Lib.hid hd
  have HLF := Lib.hid (show Lf ⟨ba, bn, bc, l, true⟩ l from ⟨rfl, rfl, hB.at_.hlen.symm⟩)
  have HBS := Lib.hid (show bn ≤ bc from hB.at_.hcap)
  clear hb2 hB hp hd hl HCL hmn
  go_wp2_with fail
  (with_reducible refine HD.out.mono ?_); rintro e w3 ⟨ia, il, ic, ka, kl, kc, rfl, hN, hb3⟩
  have HB3 := Lib.hid (HB2.out.trans (hb3.mono HB2.out.size))
  have HBY3 := Lib.hid (HBY.out.ext hb3)
  obtain ⟨lf, hlf⟩ : ∃ b, (decN ⟨ba, bn, bc, l, true⟩).leaf = b := ⟨_, rfl⟩
  rw [hlf]
  obtain ⟨w4, hw4⟩ : ∃ w4, w3.alloc (.cells #[.bool lf, .slice ia il ic, .slice ka kl kc] 28) = w4 := ⟨_, rfl⟩
  have hb34 : Below w3.heap.size w3 w4 := by rw [← hw4]; exact (Below.refl _ _).alloc (Nat.le_refl _) _
  have K4 : Blk w4 w3.heap.size [.bool lf, .slice ia il ic, .slice ka kl kc] 28 := by rw [← hw4]; exact Blk.new w3 _ _
  have HK4 := Lib.hid K4
  have HN4 := Lib.hid (hN.ext hb34)
  have HB4 := Lib.hid (HB3.out.trans (hb34.mono HB3.out.size))
  have HBY4 := Lib.hid (HBY3.out.ext hb34)
  have HW4 := Lib.hid hw4
  have HLFF := Lib.hid hlf
  have hrd := Try_rRead (fun b => b < w4.heap.size) ba bn bc l w4 HBY4.out.s HP.out (fun b h => h)
  clear hb3 hb34 K4 hN hw4 hlf HBY HBY3 HB3 HB2 HB1 HD
  cases hr : readL l with
  | none =>
    have hg := (dec_read HLF.out).2 hr
    obtain ⟨e1, e2⟩ := bad_spec hg
    rw [e2]
    have hn0 := HN4.out
    rw [e1] at hn0
    have hl0 : il = 0 := hn0.items.hlen.symm
    have hk0 : kl = 0 := hn0.kids.hlen.symm
    have hlf0 : lf = false := by rw [← HLFF.out, e1]; rfl
    rw [hr] at hrd
    subst hl0 hk0 hlf0
    have HRD := Lib.hid (show Calls Try.prog 21 #[.slice ba bn bc] w4 (GivesNone w4) from hrd)
    clear hr hg e1 e2 hn0 hrd
    go_wp2_with fail
    rw [HW4.out]
    go_wp2_with fail
    (with_reducible refine HRD.out.mono ?_); rintro e w5 ⟨rfl, hb5⟩
    have HB5 := Lib.hid (HB4.out.trans (hb5.mono HB4.out.size))
    have q5 := HK4.out.ext hb5
    have c5 := q5.cells
    have m5 := q5.marks
    have l5 := q5.lt
    clear hb5 q5 HRD HW4
    go_wp2_with fail
    (with_reducible refine (Try_noneN _ _ _ _ _).mono ?_); rintro e w6 ⟨rfl, hb6⟩
    have hs5 := HB5.out.size
    have HB6 := Lib.hid (show Below w.heap.size w w6 from (HB5.out.alloc hs5 _).trans (hb6.mono (by simp; omega)))
    clear hb6
    go_wp2
    go_ret
    exact ⟨ret_bool (by simp), HB6.out⟩
  | some N =>
    obtain ⟨hg, e1, hok⟩ := (dec_read HLF.out).1 N hr
    have e2 := (good_spec hg).2.2
    rw [e2]
    have hn0 := HN4.out
    rw [e1] at hn0 HLFF
    rw [hr] at hrd
    have HRD := Lib.hid (show Calls Try.prog 21 #[.slice ba bn bc] w4 (GivesRead' (fun b => b < w4.heap.size) w4 N) from hrd)
    have HN0 := Lib.hid hn0
    have HOK := Lib.hid hok
    have HSS := Lib.hid ((sameN_ref hok hok).symm.trans (sameN_self hok))
    clear hr hg e1 e2 hn0 hrd hok HN4
    go_wp2_with fail
    rw [HW4.out]
    go_wp2_with fail
    (with_reducible refine HRD.out.mono ?_); rintro e w5 ⟨ja, jl, jc, la, ll, lc, rfl, hM, hb5⟩
    rw [HLFF.out]
    have q5 := HK4.out.ext hb5
    obtain ⟨w6, hw6⟩ : ∃ w6, w5.alloc (.cells #[.bool lf, .slice ja jl jc, .slice la ll lc] 28) = w6 := ⟨_, rfl⟩
    have hb6 : Below w5.heap.size w5 w6 := by rw [← hw6]; exact (Below.refl _ _).alloc (Nat.le_refl _) _
    have K6 : Blk w6 w5.heap.size [.bool lf, .slice ja jl jc, .slice la ll lc] 28 := by rw [← hw6]; exact Blk.new w5 _ _
    have q6 := q5.ext hb6
    have hb56 := hb5.trans (hb6.mono hb5.size)
    have HB6 := Lib.hid (HB4.out.trans (hb56.mono HB4.out.size))
    have HBY6 := Lib.hid (HBY4.out.ext hb56)
    have HSA := Lib.hid (HN0.out.ext hb56)
    have HSB := Lib.hid (hM.ext hb6)
    have HW6 := Lib.hid hw6
    have c5 := q5.cells
    have m5 := q5.marks
    have l5 := q5.lt
    have hsm := Try_rSame N N ia ka ja la il ic kl kc jl jc ll lc _ _ w6 HSA.out HSB.out
    rw [HLFF.out, HSS.out] at hsm
    have HSM := Lib.hid hsm
    have c6 := q6.cells
    have l6 := q6.lt
    have d6 := K6.cells
    have o6 := K6.lt
    clear hb5 hb6 hb56 q5 q6 K6 hM hw6 hsm HRD HW4
    go_wp2_with fail
    rw [HW6.out]
    go_wp2_with fail
    (with_reducible refine HSM.out.mono ?_); rintro e w7 ⟨rfl, hb7⟩
    have HB7 := Lib.hid (HB6.out.trans (hb7.mono HB6.out.size))
    have heq := Try_bytesEqual ba xa bn bc bn xc l (X.take bn) w7 (HBY6.out.ext hb7) (((HX.out.ext HB7.out).s.takeC HMQ.out).at_)
    rw [HL.out, decide_eq_true rfl] at heq
    have HEQ := Lib.hid heq
    clear hb7 heq c5 m5 l5 c6 l6 d6 o6
    go_wp2_with fail
    (with_reducible refine HEQ.out.mono ?_); rintro e w8 ⟨rfl, hb8⟩
    have HB8 := Lib.hid (HB7.out.trans (hb8.mono HB7.out.size))
    clear hb8
    go_wp2
    go_ret
    exact ⟨rfl, HB8.out⟩
end Go.Proofs.Ytfhhcpolicdfpaa
