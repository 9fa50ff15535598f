/-
  Layer 13: MonoidTells, walked.
-/
import Derived.Test.YtdebmifjfemcjaaMonVg
import Derived.Test.YtdebmifjfemcjaaMonWakes
import Derived.Test.YtdebmifjfemcjaaValE
namespace Go.Dav
set_option linter.unusedVariables false
set_option linter.unusedSimpArgs false
open Go Go.RowKit
def nmL : List (List UInt8) := [[95, 99, 111, 117, 110, 116], [95, 115, 117, 109], [95, 109, 105, 110], [95, 109, 97, 120], [95, 115, 116, 97, 116, 115]]
/-- The last name's place, among the first i. -/
def atTo (s : List UInt8) : Nat → Nat
  | 0 => 0
  | i + 1 => if (nmL.getD i [] == s) = true then i + 1 else atTo s i
theorem zero_leaf : zeroF (leafV 1 0 0).to = true := by simp [zeroF, leafV, ValN.to, strEmpty, noStr]
theorem atTo_succ (s : List UInt8) (i : Nat) (b : Bool) (h : (nmL.getD i [] == s) = b) : atTo s (i + 1) = if b = true then i + 1 else atTo s i := by rw [← h]; rfl
end Go.Dav
namespace Go.Proofs.Ytdebmifjfemcjaa
set_option linter.unusedVariables false
set_option linter.unusedSimpArgs false
open Go.RowKit Go.Dav
attribute [local go_sem] Gives ite_val ite_val_true

theorem Try_kindAt (s : List UInt8) : TryKindOf s = (((atTo s 5 : Nat) : Int), if atTo s 5 = 0 then 4 else 0) := by
  by_cases h1 : ([95, 99, 111, 117, 110, 116] == s) = true
  · have := eq_of_beq h1; subst this; decide
  by_cases h2 : ([95, 115, 117, 109] == s) = true
  · have := eq_of_beq h2; subst this; decide
  by_cases h3 : ([95, 109, 105, 110] == s) = true
  · have := eq_of_beq h3; subst this; decide
  by_cases h4 : ([95, 109, 97, 120] == s) = true
  · have := eq_of_beq h4; subst this; decide
  by_cases h5 : ([95, 115, 116, 97, 116, 115] == s) = true
  · have := eq_of_beq h5; subst this; decide
  have e : atTo s 5 = 0 := by
    show (if ([95, 115, 116, 97, 116, 115] == s) = true then 5 else if ([95, 109, 97, 120] == s) = true then 4 else if ([95, 109, 105, 110] == s) = true then 3 else if ([95, 115, 117, 109] == s) = true then 2 else if ([95, 99, 111, 117, 110, 116] == s) = true then 1 else 0) = 0
    rw [if_neg h5, if_neg h4, if_neg h3, if_neg h2, if_neg h1]
  rw [e]
  unfold TryKindOf
  rw [if_neg h1, if_neg h2, if_neg h3, if_neg h4, if_neg h5]
  rfl

set_option maxRecDepth 8000 in
set_option maxHeartbeats 16000000 in
theorem Try_MonoidTells (r : Red) (k : Int) (s : ByteArray) (w : World) (hf : r.fits) (hk : I64 k) :
    Calls Try.prog 7 #[.agg #[.int .i64 r.c, .int .i64 r.n, .int .i64 (hi r.s), .int .u64 (lo r.s), .int .i64 r.l, .int .i64 r.m], .int .i64 k, .string s] w fun e w' => e = .returned (.bool true) ∧ Below w.heap.size w w' := by
  obtain ⟨W0, hW0⟩ : ∃ W0, w.alloc (.cells #[.int .i64 r.c, .int .i64 r.n, .int .i64 (hi r.s), .int .u64 (lo r.s), .int .i64 r.l, .int .i64 r.m] 24) = W0 := ⟨_, rfl⟩
  have bel0 : Below w.heap.size w W0 := by rw [← hW0]; exact (by repeat (first | (with_reducible exact Below.refl _ _) | (with_reducible exact Below.refl _ _) | (with_reducible refine Below.setCell ?_ (by first | omega | (simp; done) | (simp; omega)) _) | (with_reducible refine Below.alloc ?_ (by first | omega | (simp; done) | (simp; omega)) _) | (with_reducible refine Below.drew ?_) | (with_reducible refine below_drewN ?_ _)))
  have B0 := Lib.hid (show Blk W0 w.heap.size [.int .i64 r.c, .int .i64 r.n, .int .i64 (hi r.s), .int .u64 (lo r.s), .int .i64 r.l, .int .i64 r.m] 24 by rw [← hW0]; exact Blk.new _ _ _)
  have BEL0 := Lib.hid bel0
  have HW0 := Lib.hid hW0
  have HFI := Lib.hid hf
  clear bel0 hW0 hf
  go_enter Try.func7, Try.ntmps7
  go_wp2_with fail
  rw [HW0.out]
  refine (Try_wakes W0).mono ?_; rintro e w1 ⟨rfl, hb1⟩
  have B1 := Lib.hid (B0.out.ext hb1)
  have BEL1 := Lib.hid (BEL0.out.trans (hb1.mono BEL0.out.size))
  have q0 := B1.out.cells
  have l0 := B1.out.lt
  clear hb1 B0 BEL0 HW0
  go_wp2_with fail
  refine (Try_TellAll k r w1 HFI.out).mono ?_; rintro e w2 ⟨⟨v, rfl, hv⟩, hb2⟩
  obtain ⟨X, hX⟩ : ∃ X, toldX k r = X := ⟨_, rfl⟩
  obtain ⟨E, hE⟩ : ∃ E, toldE k r = E := ⟨_, rfl⟩
  rw [hX] at hv
  rw [hE]
  have HXX := Lib.hid hX
  have HEE := Lib.hid hE
  have HV2 := Lib.hid hv
  obtain ⟨ka, kl, kc, qa, ql, qc, hi⟩ := hv
  have hval := hi.val
  subst hval
  obtain ⟨k0, hk0⟩ : ∃ k, X.to.kind = k := ⟨_, rfl⟩
  obtain ⟨n0, hn0⟩ : ∃ k, X.to.n = k := ⟨_, rfl⟩
  obtain ⟨s0, hs0⟩ : ∃ k, X.to.s = k := ⟨_, rfl⟩
  rw [hk0, hn0, hs0] at HV2 ⊢
  have B2 := Lib.hid (B1.out.ext hb2)
  have BEL2 := Lib.hid (BEL1.out.trans (hb2.mono BEL1.out.size))
  clear hb2 q0 l0 B1 BEL1 hX hE hi hk0 hn0 hs0
  by_cases hin : 1 ≤ k ∧ k ≤ 5
  · obtain ⟨kn, rfl⟩ := Int.eq_ofNat_of_zero_le (show 0 ≤ k by omega)
    have h1 : 1 ≤ kn := by omega
    have h5 : kn ≤ 5 := by omega
    obtain ⟨nm, hnm⟩ : ∃ nm, TryNames[kn - 1]? = some (.string nm) := by
      rcases (by omega : kn = 1 ∨ kn = 2 ∨ kn = 3 ∨ kn = 4 ∨ kn = 5) with rfl | rfl | rfl | rfl | rfl
      all_goals exact ⟨_, rfl⟩
    go_wp2_with fail
    obtain ⟨V, hV⟩ : ∃ V, w2.alloc (.cells #[.int .i64 k0, .int .i64 n0, .string s0, .slice ka kl kc, .slice qa ql qc] 51) = V := ⟨_, rfl⟩
    have hbV : Below w2.heap.size w2 V := by rw [← hV]; exact (by repeat (first | (with_reducible exact Below.refl _ _) | (with_reducible exact Below.refl _ _) | (with_reducible refine Below.setCell ?_ (by first | omega | (simp; done) | (simp; omega)) _) | (with_reducible refine Below.alloc ?_ (by first | omega | (simp; done) | (simp; omega)) _) | (with_reducible refine Below.drew ?_) | (with_reducible refine below_drewN ?_ _)))
    have K3 := Lib.hid (show Blk V w2.heap.size [.int .i64 k0, .int .i64 n0, .string s0, .slice ka kl kc, .slice qa ql qc] 51 by rw [← hV]; exact Blk.new _ _ _)
    have HV3 := Lib.hid (ValAt.ext hbV 2 HV2.out)
    have B3 := Lib.hid (B2.out.ext hbV)
    have BEL3 := Lib.hid (BEL2.out.trans (hbV.mono BEL2.out.size))
    rw [hV]
    clear hV hbV HV2 B2 BEL2
    refine (Try_Name_yes kn nm _ h1 h5 hnm).mono ?_; rintro e w4 ⟨rfl, hb4⟩
    have K4 := Lib.hid (K3.out.ext hb4)
    have HV4 := Lib.hid (ValAt.ext hb4 2 HV3.out)
    have B4 := Lib.hid (B3.out.ext hb4)
    have BEL4 := Lib.hid (BEL3.out.trans (hb4.mono BEL3.out.size))
    clear hb4 K3 HV3 B3 BEL3
    go_wp2_with fail
    refine (Try_Kind s w4).mono ?_; rintro e w5 ⟨rfl, hb5⟩
    rw [Try_kindAt]
    have K5 := Lib.hid (K4.out.ext hb5)
    have HV5 := Lib.hid (ValAt.ext hb5 2 HV4.out)
    have B5 := Lib.hid (B4.out.ext hb5)
    have BEL5 := Lib.hid (BEL4.out.trans (hb5.mono BEL4.out.size))
    clear hb5 K4 HV4 B4 BEL4
    obtain ⟨a, ha⟩ : ∃ a, atTo s.toList 5 = a := ⟨_, rfl⟩
    obtain ⟨g, hg⟩ : ∃ g : Int, (if atTo s.toList 5 = 0 then (4 : Int) else 0) = g := ⟨_, rfl⟩
    rw [hg, ha]
    rw [ha] at hg
    have HA := Lib.hid ha
    have HG := Lib.hid hg
    clear ha hg
    go_wp2_with fail
    refine (Try_Names w5).mono ?_; rintro e w6 ⟨rfl, hkn, hb6⟩
    have K6 := Lib.hid (K5.out.ext hb6)
    have HV6 := Lib.hid (ValAt.ext hb6 2 HV5.out)
    have B6 := Lib.hid (B5.out.ext hb6)
    have BEL6 := Lib.hid (BEL5.out.trans (hb6.mono BEL5.out.size))
    have N6 := Lib.hid hkn
    obtain ⟨p, hp⟩ : ∃ p, w5.heap.size = p := ⟨_, rfl⟩
    rw [hp] at N6 ⊢
    have qn := (show Blk w6 p [.string ⟨#[95, 99, 111, 117, 110, 116]⟩, .string ⟨#[95, 115, 117, 109]⟩, .string ⟨#[95, 109, 105, 110]⟩, .string ⟨#[95, 109, 97, 120]⟩, .string ⟨#[95, 115, 116, 97, 116, 115]⟩] 9 from N6.out).cells
    have ln := N6.out.lt
    clear hb6 K5 HV5 B5 BEL5 hkn hp
    go_wp2_with fail
    go_loopw [14, 42] (fun at_ ix wr => ∃ i : Nat, i ≤ 5 ∧ ix = .int .i64 (i : Int) ∧ at_ = .int .i64 ((atTo s.toList i : Nat) : Int) ∧ wr = w6) (fun _ ix _ => 5 - (intOf ix).toNat)
    case atStart => exact ⟨0, Nat.zero_le _, by go_num, rfl, rfl⟩
    case round =>
      obtain ⟨i, hi, rfl, rfl, rfl⟩ := hrel
      rcases (by omega : i = 0 ∨ i = 1 ∨ i = 2 ∨ i = 3 ∨ i = 4 ∨ i = 5) with rfl | rfl | rfl | rfl | rfl | rfl
      ·
        cases hb : ([95, 99, 111, 117, 110, 116] == s.toList) with
        | true =>
          have HT := Lib.hid (atTo_succ s.toList 0 true hb)
          clear hi
          go_wp2_with fail
          go_roundw
          case rel => exact ⟨1, by omega, by go_num, by rw [HT.out]; rfl, by first | rfl | trivial⟩
          case measure => simp [intOf]
        | false =>
          have HT := Lib.hid (atTo_succ s.toList 0 false hb)
          clear hi
          go_wp2_with fail
          go_roundw
          case rel => exact ⟨1, by omega, by go_num, by rw [HT.out]; rfl, by first | rfl | trivial⟩
          case measure => simp [intOf]
      ·
        cases hb : ([95, 115, 117, 109] == s.toList) with
        | true =>
          have HT := Lib.hid (atTo_succ s.toList 1 true hb)
          clear hi
          go_wp2_with fail
          go_roundw
          case rel => exact ⟨2, by omega, by go_num, by rw [HT.out]; rfl, by first | rfl | trivial⟩
          case measure => simp [intOf]
        | false =>
          have HT := Lib.hid (atTo_succ s.toList 1 false hb)
          clear hi
          go_wp2_with fail
          go_roundw
          case rel => exact ⟨2, by omega, by go_num, by rw [HT.out]; rfl, by first | rfl | trivial⟩
          case measure => simp [intOf]
      ·
        cases hb : ([95, 109, 105, 110] == s.toList) with
        | true =>
          have HT := Lib.hid (atTo_succ s.toList 2 true hb)
          clear hi
          go_wp2_with fail
          go_roundw
          case rel => exact ⟨3, by omega, by go_num, by rw [HT.out]; rfl, by first | rfl | trivial⟩
          case measure => simp [intOf]
        | false =>
          have HT := Lib.hid (atTo_succ s.toList 2 false hb)
          clear hi
          go_wp2_with fail
          go_roundw
          case rel => exact ⟨3, by omega, by go_num, by rw [HT.out]; rfl, by first | rfl | trivial⟩
          case measure => simp [intOf]
      ·
        cases hb : ([95, 109, 97, 120] == s.toList) with
        | true =>
          have HT := Lib.hid (atTo_succ s.toList 3 true hb)
          clear hi
          go_wp2_with fail
          go_roundw
          case rel => exact ⟨4, by omega, by go_num, by rw [HT.out]; rfl, by first | rfl | trivial⟩
          case measure => simp [intOf]
        | false =>
          have HT := Lib.hid (atTo_succ s.toList 3 false hb)
          clear hi
          go_wp2_with fail
          go_roundw
          case rel => exact ⟨4, by omega, by go_num, by rw [HT.out]; rfl, by first | rfl | trivial⟩
          case measure => simp [intOf]
      ·
        cases hb : ([95, 115, 116, 97, 116, 115] == s.toList) with
        | true =>
          have HT := Lib.hid (atTo_succ s.toList 4 true hb)
          clear hi
          go_wp2_with fail
          go_roundw
          case rel => exact ⟨5, by omega, by go_num, by rw [HT.out]; rfl, by first | rfl | trivial⟩
          case measure => simp [intOf]
        | false =>
          have HT := Lib.hid (atTo_succ s.toList 4 false hb)
          clear hi
          go_wp2_with fail
          go_roundw
          case rel => exact ⟨5, by omega, by go_num, by rw [HT.out]; rfl, by first | rfl | trivial⟩
          case measure => simp [intOf]
      · have e1 : (kn : Int) - 1 = ((kn - 1 : Nat) : Int) := by omega
        have qj : wr.cell? ⟨p, kn - 1, none⟩ = some (.string nm) := by rw [N6.out.cells]; exact hnm
        have g0 : kn - 1 < 5 := by omega
        obtain ⟨j, hj⟩ : ∃ j, kn - 1 = j := ⟨_, rfl⟩
        rw [hj] at e1 qj g0
        have g1 : (1 : Int) ≤ (kn : Int) := by omega
        have g2 : (kn : Int) ≤ 5 := by omega
        have g3 : (j : Int) < 5 := by omega
        have u1 : IntKind.i64.wrap (j : Int) = (j : Int) := IntWalk.i64_in _ (by omega)
        have NOK := Lib.hid (show ¬ ((kn : Int) < 1 ∨ 5 < (kn : Int)) by omega)
        clear hj hnm hi hk
        rw [HA.out]
        obtain ⟨ja, jl, jc, ra, rl, rc, hi⟩ := HV6.out
        have ZC := Lib.hid (Try_rZero (ValAt wr 1) X.to _ ja ra jl jc rl rc wr hi)
        obtain ⟨z, hz⟩ : ∃ z, zeroF X.to = z := ⟨_, rfl⟩
        rw [hz] at ZC
        have HZ := Lib.hid hz
        have q7 := K6.out.cells
        have l7 := K6.out.lt
        clear hi hz qn
        cases hok : r.ok with
        | false =>
          have hE : E = 230 := by rw [← HEE.out]; unfold toldE; rw [if_pos hok]
          have hz : z = true := by rw [← HZ.out, ← HXX.out]; unfold toldX; rw [if_pos (.inl hok)]; exact zero_leaf
          have HOK := Lib.hid hok
          clear hok HZ HXX HEE
          subst hE hz
          rcases (show (a = 0 ∧ g = 4) ∨ (0 < a ∧ g = 0) by have h := HG.out; by_cases h0 : a = 0; (rw [if_pos h0] at h; exact .inl ⟨h0, h.symm⟩); (rw [if_neg h0] at h; exact .inr ⟨by omega, h.symm⟩)) with ⟨ha, hg⟩ | ⟨ha, hg⟩
          · clear HA HG
            subst ha hg
            go_wp2_with fail
            refine ZC.out.mono ?_; rintro e wa ⟨rfl, hba⟩
            have B7 := Lib.hid (B6.out.ext hba)
            have BEL7 := Lib.hid (BEL6.out.trans (hba.mono BEL6.out.size))
            have q0 := B7.out.cells
            have l0 := B7.out.lt
            clear hba q7 l7
            go_wp2_with fail
            refine (Try_mRight r wa HFI.out.2.2.1 HFI.out.2.2.2).mono ?_; rintro e wb ⟨rfl, hbb⟩
            rw [HOK.out]
            have BEL8 := Lib.hid (BEL7.out.trans (hbb.mono BEL7.out.size))
            clear hbb q0 l0
            go_wp2
            go_ret
            exact ⟨rfl, BEL8.out⟩
          · have z1 : ((a : Int) == 0) = false := by rw [beq_eq_false_iff_ne]; omega
            have z2 : (0 : Int) < (a : Int) := by omega
            clear HA HG
            subst hg
            go_wp2_with fail
            refine ZC.out.mono ?_; rintro e wa ⟨rfl, hba⟩
            have B7 := Lib.hid (B6.out.ext hba)
            have BEL7 := Lib.hid (BEL6.out.trans (hba.mono BEL6.out.size))
            have q0 := B7.out.cells
            have l0 := B7.out.lt
            clear hba q7 l7
            go_wp2_with fail
            refine (Try_mRight r wa HFI.out.2.2.1 HFI.out.2.2.2).mono ?_; rintro e wb ⟨rfl, hbb⟩
            rw [HOK.out]
            have BEL8 := Lib.hid (BEL7.out.trans (hbb.mono BEL7.out.size))
            clear hbb q0 l0
            go_wp2
            go_ret
            exact ⟨rfl, BEL8.out⟩
        | true =>
          cases ho : overB (kn : Int) r with
          | true =>
            have hE : E = 5 := by rw [← HEE.out]; unfold toldE; rw [if_neg (by rw [hok]; decide), if_neg NOK.out, if_pos ho]
            have hz : z = true := by rw [← HZ.out, ← HXX.out]; unfold toldX; rw [if_pos (.inr (.inr (.inr ho)))]; exact zero_leaf
            have hov : (kn = 2 ∨ kn = 5) ∧ fitsB r.s = false := by
              unfold overB at ho
              simp only [Bool.and_eq_true, Bool.or_eq_true, decide_eq_true_eq, Bool.not_eq_true'] at ho
              exact ⟨by omega, ho.2⟩
            have RT := Lib.hid (fun W => Try_rTell_no kn r W hov.1 HFI.out.1 HFI.out.2.1 HFI.out.2.2.1 HFI.out.2.2.2 hov.2)
            have HOK := Lib.hid hok
            clear hok ho hov HZ HXX HEE
            subst hE hz
            rcases (show (a = 0 ∧ g = 4) ∨ (0 < a ∧ g = 0) by have h := HG.out; by_cases h0 : a = 0; (rw [if_pos h0] at h; exact .inl ⟨h0, h.symm⟩); (rw [if_neg h0] at h; exact .inr ⟨by omega, h.symm⟩)) with ⟨ha, hg⟩ | ⟨ha, hg⟩
            · clear HA HG
              subst ha hg
              go_wp2_with fail
              refine ZC.out.mono ?_; rintro e wa ⟨rfl, hba⟩
              have B7 := Lib.hid (B6.out.ext hba)
              have BEL7 := Lib.hid (BEL6.out.trans (hba.mono BEL6.out.size))
              have q0 := B7.out.cells
              have l0 := B7.out.lt
              clear hba q7 l7
              go_wp2_with fail
              refine (Try_mRight r wa HFI.out.2.2.1 HFI.out.2.2.2).mono ?_; rintro e wb ⟨rfl, hbb⟩
              rw [HOK.out]
              have B8 := Lib.hid (B7.out.ext hbb)
              have BEL8 := Lib.hid (BEL7.out.trans (hbb.mono BEL7.out.size))
              clear hbb q0 l0
              have q0 := B8.out.cells
              have l0 := B8.out.lt
              go_wp2_with fail
              refine (RT.out wb).mono ?_; rintro e wc ⟨rfl, hbc⟩
              have BEL9 := Lib.hid (BEL8.out.trans (hbc.mono BEL8.out.size))
              clear hbc q0 l0
              go_wp2
              go_ret
              exact ⟨rfl, by have h := BEL9.out; have hs := h.size; exact (by repeat (first | (with_reducible exact Below.refl _ _) | (with_reducible exact Below.refl _ _) | (with_reducible refine Below.setCell ?_ (by first | omega | (simp; done) | (simp; omega)) _) | (with_reducible refine Below.alloc ?_ (by first | omega | (simp; done) | (simp; omega)) _) | (with_reducible refine Below.drew ?_) | (with_reducible refine below_drewN ?_ _) | (with_reducible refine Below.trans ?_ (h.mono (by first | omega | (simp; done) | (simp; omega))))))⟩
            · have z1 : ((a : Int) == 0) = false := by rw [beq_eq_false_iff_ne]; omega
              have z2 : (0 : Int) < (a : Int) := by omega
              clear HA HG
              subst hg
              go_wp2_with fail
              refine ZC.out.mono ?_; rintro e wa ⟨rfl, hba⟩
              have B7 := Lib.hid (B6.out.ext hba)
              have BEL7 := Lib.hid (BEL6.out.trans (hba.mono BEL6.out.size))
              have q0 := B7.out.cells
              have l0 := B7.out.lt
              clear hba q7 l7
              go_wp2_with fail
              refine (Try_mRight r wa HFI.out.2.2.1 HFI.out.2.2.2).mono ?_; rintro e wb ⟨rfl, hbb⟩
              rw [HOK.out]
              have B8 := Lib.hid (B7.out.ext hbb)
              have BEL8 := Lib.hid (BEL7.out.trans (hbb.mono BEL7.out.size))
              clear hbb q0 l0
              have q0 := B8.out.cells
              have l0 := B8.out.lt
              go_wp2_with fail
              refine (RT.out wb).mono ?_; rintro e wc ⟨rfl, hbc⟩
              have BEL9 := Lib.hid (BEL8.out.trans (hbc.mono BEL8.out.size))
              clear hbc q0 l0
              go_wp2
              go_ret
              exact ⟨rfl, by have h := BEL9.out; have hs := h.size; exact (by repeat (first | (with_reducible exact Below.refl _ _) | (with_reducible exact Below.refl _ _) | (with_reducible refine Below.setCell ?_ (by first | omega | (simp; done) | (simp; omega)) _) | (with_reducible refine Below.alloc ?_ (by first | omega | (simp; done) | (simp; omega)) _) | (with_reducible refine Below.drew ?_) | (with_reducible refine below_drewN ?_ _) | (with_reducible refine Below.trans ?_ (h.mono (by first | omega | (simp; done) | (simp; omega))))))⟩
          | false =>
            have hE : E = 0 := by rw [← HEE.out]; unfold toldE; rw [if_neg (by rw [hok]; decide), if_neg NOK.out, if_neg (by rw [ho]; decide)]
            have hfit : (kn = 2 ∨ kn = 5) → fitsB r.s = true := fun h => by
              unfold overB at ho
              cases hfb : fitsB r.s with
              | true => rfl
              | false => rw [hfb] at ho; simp at ho; omega
            have hx : X = tellV kn r := by rw [← HXX.out]; unfold toldX; rw [if_neg (fun h => by rcases h with h | h | h | h; (rw [hok] at h; cases h); exact NOK.out (.inl h); exact NOK.out (.inr h); (rw [ho] at h; cases h))]; rfl
            have RT := Lib.hid (show ∀ W, Calls Try.prog 22 #[.int .i64 (kn : Int), .agg #[.int .i64 r.c, .int .i64 r.n, .int .i64 (hi r.s), .int .u64 (lo r.s), .int .i64 r.l, .int .i64 r.m]] W (fun e w' => ToldTo 2 X (.bool true) e w' ∧ Below W.heap.size W w') from fun W => by
              rw [hx]
              by_cases h5' : kn = 5
              · subst h5'; exact Try_rTell5 r W HFI.out.1 HFI.out.2.1 HFI.out.2.2.1 HFI.out.2.2.2 (hfit (.inr rfl))
              · exact Try_rTell4 kn r W h1 (by omega) HFI.out.1 HFI.out.2.1 HFI.out.2.2.1 HFI.out.2.2.2 (fun h => hfit (.inl h)))
            have SAME := Lib.hid (show sameV 2 2 X X = true by rw [hx]; exact tell_same kn r)
            have HOK := Lib.hid hok
            clear hok ho hfit hx HZ HXX HEE
            subst hE
            rcases (show (a = 0 ∧ g = 4) ∨ (0 < a ∧ g = 0) by have h := HG.out; by_cases h0 : a = 0; (rw [if_pos h0] at h; exact .inl ⟨h0, h.symm⟩); (rw [if_neg h0] at h; exact .inr ⟨by omega, h.symm⟩)) with ⟨ha, hg⟩ | ⟨ha, hg⟩
            · clear HA HG
              subst ha hg
              go_wp2_with fail
              refine ZC.out.mono ?_; rintro e wa ⟨rfl, hba⟩
              have B7 := Lib.hid (B6.out.ext hba)
              have K7 := Lib.hid (K6.out.ext hba)
              have HV7 := Lib.hid (ValAt.ext hba 2 HV6.out)
              have BEL7 := Lib.hid (BEL6.out.trans (hba.mono BEL6.out.size))
              have q0 := B7.out.cells
              have l0 := B7.out.lt
              clear hba q7 l7
              go_wp2_with fail
              refine (Try_mRight r wa HFI.out.2.2.1 HFI.out.2.2.2).mono ?_; rintro e wb ⟨rfl, hbb⟩
              rw [HOK.out]
              have B8 := Lib.hid (B7.out.ext hbb)
              have K8 := Lib.hid (K7.out.ext hbb)
              have HV8 := Lib.hid (ValAt.ext hbb 2 HV7.out)
              have BEL8 := Lib.hid (BEL7.out.trans (hbb.mono BEL7.out.size))
              clear hbb q0 l0
              have q0 := B8.out.cells
              have l0 := B8.out.lt
              go_wp2_with fail
              refine (RT.out wb).mono ?_; rintro e wc ⟨⟨v2, rfl, hv2⟩, hbc⟩
              have HV2 := Lib.hid hv2
              obtain ⟨xa, xl, xc, ya, yl, yc, hi2⟩ := hv2
              have hval2 := hi2.val
              subst hval2
              obtain ⟨k1, hk1⟩ : ∃ k, X.to.kind = k := ⟨_, rfl⟩
              obtain ⟨n1, hn1⟩ : ∃ k, X.to.n = k := ⟨_, rfl⟩
              obtain ⟨s1, hs1⟩ : ∃ k, X.to.s = k := ⟨_, rfl⟩
              rw [hk1, hn1, hs1] at HV2 ⊢
              clear hi2 hk1 hn1 hs1
              have K9 := Lib.hid (K8.out.ext hbc)
              have HV9 := Lib.hid (ValAt.ext hbc 2 HV8.out)
              have BEL9 := Lib.hid (BEL8.out.trans (hbc.mono BEL8.out.size))
              clear hbc q0 l0
              have q7 := K9.out.cells
              have l7 := K9.out.lt
              go_wp2_with fail
              obtain ⟨wd, hwd⟩ : ∃ wd, wc.alloc (.cells #[.int .i64 k1, .int .i64 n1, .string s1, .slice xa xl xc, .slice ya yl yc] 51) = wd := ⟨_, rfl⟩
              have hbd : Below wc.heap.size wc wd := by rw [← hwd]; exact (by repeat (first | (with_reducible exact Below.refl _ _) | (with_reducible exact Below.refl _ _) | (with_reducible refine Below.setCell ?_ (by first | omega | (simp; done) | (simp; omega)) _) | (with_reducible refine Below.alloc ?_ (by first | omega | (simp; done) | (simp; omega)) _) | (with_reducible refine Below.drew ?_) | (with_reducible refine below_drewN ?_ _)))
              rw [show _ = wd from hwd]
              have HVA := Lib.hid (ValAt.ext hbd 2 HV9.out)
              have HVB := Lib.hid (ValAt.ext hbd 2 HV2.out)
              have BELd := Lib.hid (BEL9.out.trans (hbd.mono BEL9.out.size))
              clear hbd hwd q7 l7
              have hS := Try_rSame 2 2 X X _ _ wd HVA.out HVB.out
              rw [SAME.out] at hS
              refine hS.mono ?_; rintro e we ⟨rfl, hbe⟩
              have BELe := Lib.hid (BELd.out.trans (hbe.mono BELd.out.size))
              clear hbe hS
              go_wp2
              go_ret
              exact ⟨rfl, BELe.out⟩
            · have z1 : ((a : Int) == 0) = false := by rw [beq_eq_false_iff_ne]; omega
              have z2 : (0 : Int) < (a : Int) := by omega
              clear HA HG
              subst hg
              go_wp2_with fail
              refine ZC.out.mono ?_; rintro e wa ⟨rfl, hba⟩
              have B7 := Lib.hid (B6.out.ext hba)
              have K7 := Lib.hid (K6.out.ext hba)
              have HV7 := Lib.hid (ValAt.ext hba 2 HV6.out)
              have BEL7 := Lib.hid (BEL6.out.trans (hba.mono BEL6.out.size))
              have q0 := B7.out.cells
              have l0 := B7.out.lt
              clear hba q7 l7
              go_wp2_with fail
              refine (Try_mRight r wa HFI.out.2.2.1 HFI.out.2.2.2).mono ?_; rintro e wb ⟨rfl, hbb⟩
              rw [HOK.out]
              have B8 := Lib.hid (B7.out.ext hbb)
              have K8 := Lib.hid (K7.out.ext hbb)
              have HV8 := Lib.hid (ValAt.ext hbb 2 HV7.out)
              have BEL8 := Lib.hid (BEL7.out.trans (hbb.mono BEL7.out.size))
              clear hbb q0 l0
              have q0 := B8.out.cells
              have l0 := B8.out.lt
              go_wp2_with fail
              refine (RT.out wb).mono ?_; rintro e wc ⟨⟨v2, rfl, hv2⟩, hbc⟩
              have HV2 := Lib.hid hv2
              obtain ⟨xa, xl, xc, ya, yl, yc, hi2⟩ := hv2
              have hval2 := hi2.val
              subst hval2
              obtain ⟨k1, hk1⟩ : ∃ k, X.to.kind = k := ⟨_, rfl⟩
              obtain ⟨n1, hn1⟩ : ∃ k, X.to.n = k := ⟨_, rfl⟩
              obtain ⟨s1, hs1⟩ : ∃ k, X.to.s = k := ⟨_, rfl⟩
              rw [hk1, hn1, hs1] at HV2 ⊢
              clear hi2 hk1 hn1 hs1
              have K9 := Lib.hid (K8.out.ext hbc)
              have HV9 := Lib.hid (ValAt.ext hbc 2 HV8.out)
              have BEL9 := Lib.hid (BEL8.out.trans (hbc.mono BEL8.out.size))
              clear hbc q0 l0
              have q7 := K9.out.cells
              have l7 := K9.out.lt
              go_wp2_with fail
              obtain ⟨wd, hwd⟩ : ∃ wd, wc.alloc (.cells #[.int .i64 k1, .int .i64 n1, .string s1, .slice xa xl xc, .slice ya yl yc] 51) = wd := ⟨_, rfl⟩
              have hbd : Below wc.heap.size wc wd := by rw [← hwd]; exact (by repeat (first | (with_reducible exact Below.refl _ _) | (with_reducible exact Below.refl _ _) | (with_reducible refine Below.setCell ?_ (by first | omega | (simp; done) | (simp; omega)) _) | (with_reducible refine Below.alloc ?_ (by first | omega | (simp; done) | (simp; omega)) _) | (with_reducible refine Below.drew ?_) | (with_reducible refine below_drewN ?_ _)))
              rw [show _ = wd from hwd]
              have HVA := Lib.hid (ValAt.ext hbd 2 HV9.out)
              have HVB := Lib.hid (ValAt.ext hbd 2 HV2.out)
              have BELd := Lib.hid (BEL9.out.trans (hbd.mono BEL9.out.size))
              clear hbd hwd q7 l7
              have hS := Try_rSame 2 2 X X _ _ wd HVA.out HVB.out
              rw [SAME.out] at hS
              refine hS.mono ?_; rintro e we ⟨rfl, hbe⟩
              have BELe := Lib.hid (BELd.out.trans (hbe.mono BELd.out.size))
              clear hbe hS
              go_wp2
              go_ret
              exact ⟨rfl, BELe.out⟩
  · have hout : k < 1 ∨ 5 < k := by omega
    clear hin hk
    by_cases hk1 : k < 1
    · have g1 : ¬ (1 : Int) ≤ k := by omega
      have NOK := Lib.hid (show k < 1 ∨ 5 < k from hout)
      clear hout
      go_wp2_with fail
      obtain ⟨V, hV⟩ : ∃ V, w2.alloc (.cells #[.int .i64 k0, .int .i64 n0, .string s0, .slice ka kl kc, .slice qa ql qc] 51) = V := ⟨_, rfl⟩
      have hbV : Below w2.heap.size w2 V := by rw [← hV]; exact (by repeat (first | (with_reducible exact Below.refl _ _) | (with_reducible exact Below.refl _ _) | (with_reducible refine Below.setCell ?_ (by first | omega | (simp; done) | (simp; omega)) _) | (with_reducible refine Below.alloc ?_ (by first | omega | (simp; done) | (simp; omega)) _) | (with_reducible refine Below.drew ?_) | (with_reducible refine below_drewN ?_ _)))
      have K3 := Lib.hid (show Blk V w2.heap.size [.int .i64 k0, .int .i64 n0, .string s0, .slice ka kl kc, .slice qa ql qc] 51 by rw [← hV]; exact Blk.new _ _ _)
      have HV3 := Lib.hid (ValAt.ext hbV 2 HV2.out)
      have B3 := Lib.hid (B2.out.ext hbV)
      have BEL3 := Lib.hid (BEL2.out.trans (hbV.mono BEL2.out.size))
      rw [hV]
      clear hV hbV HV2 B2 BEL2
      refine (Try_Name_no k _ NOK.out).mono ?_; rintro e w4 ⟨rfl, hb4⟩
      have K4 := Lib.hid (K3.out.ext hb4)
      have HV4 := Lib.hid (ValAt.ext hb4 2 HV3.out)
      have B4 := Lib.hid (B3.out.ext hb4)
      have BEL4 := Lib.hid (BEL3.out.trans (hb4.mono BEL3.out.size))
      clear hb4 K3 HV3 B3 BEL3
      go_wp2_with fail
      refine (Try_Kind s w4).mono ?_; rintro e w5 ⟨rfl, hb5⟩
      rw [Try_kindAt]
      have K5 := Lib.hid (K4.out.ext hb5)
      have HV5 := Lib.hid (ValAt.ext hb5 2 HV4.out)
      have B5 := Lib.hid (B4.out.ext hb5)
      have BEL5 := Lib.hid (BEL4.out.trans (hb5.mono BEL4.out.size))
      clear hb5 K4 HV4 B4 BEL4
      obtain ⟨a, ha⟩ : ∃ a, atTo s.toList 5 = a := ⟨_, rfl⟩
      obtain ⟨g, hg⟩ : ∃ g : Int, (if atTo s.toList 5 = 0 then (4 : Int) else 0) = g := ⟨_, rfl⟩
      rw [hg, ha]
      rw [ha] at hg
      have HA := Lib.hid ha
      have HG := Lib.hid hg
      clear ha hg
      go_wp2_with fail
      refine (Try_Names w5).mono ?_; rintro e w6 ⟨rfl, hkn, hb6⟩
      have K6 := Lib.hid (K5.out.ext hb6)
      have HV6 := Lib.hid (ValAt.ext hb6 2 HV5.out)
      have B6 := Lib.hid (B5.out.ext hb6)
      have BEL6 := Lib.hid (BEL5.out.trans (hb6.mono BEL5.out.size))
      have N6 := Lib.hid hkn
      obtain ⟨p, hp⟩ : ∃ p, w5.heap.size = p := ⟨_, rfl⟩
      rw [hp] at N6 ⊢
      have qn := (show Blk w6 p [.string ⟨#[95, 99, 111, 117, 110, 116]⟩, .string ⟨#[95, 115, 117, 109]⟩, .string ⟨#[95, 109, 105, 110]⟩, .string ⟨#[95, 109, 97, 120]⟩, .string ⟨#[95, 115, 116, 97, 116, 115]⟩] 9 from N6.out).cells
      have ln := N6.out.lt
      clear hb6 K5 HV5 B5 BEL5 hkn hp
      go_wp2_with fail
      go_loopw [14, 42] (fun at_ ix wr => ∃ i : Nat, i ≤ 5 ∧ ix = .int .i64 (i : Int) ∧ at_ = .int .i64 ((atTo s.toList i : Nat) : Int) ∧ wr = w6) (fun _ ix _ => 5 - (intOf ix).toNat)
      case atStart => exact ⟨0, Nat.zero_le _, by go_num, rfl, rfl⟩
      case round =>
        obtain ⟨i, hi, rfl, rfl, rfl⟩ := hrel
        rcases (by omega : i = 0 ∨ i = 1 ∨ i = 2 ∨ i = 3 ∨ i = 4 ∨ i = 5) with rfl | rfl | rfl | rfl | rfl | rfl
        ·
          cases hb : ([95, 99, 111, 117, 110, 116] == s.toList) with
          | true =>
            have HT := Lib.hid (atTo_succ s.toList 0 true hb)
            clear hi
            go_wp2_with fail
            go_roundw
            case rel => exact ⟨1, by omega, by go_num, by rw [HT.out]; rfl, by first | rfl | trivial⟩
            case measure => simp [intOf]
          | false =>
            have HT := Lib.hid (atTo_succ s.toList 0 false hb)
            clear hi
            go_wp2_with fail
            go_roundw
            case rel => exact ⟨1, by omega, by go_num, by rw [HT.out]; rfl, by first | rfl | trivial⟩
            case measure => simp [intOf]
        ·
          cases hb : ([95, 115, 117, 109] == s.toList) with
          | true =>
            have HT := Lib.hid (atTo_succ s.toList 1 true hb)
            clear hi
            go_wp2_with fail
            go_roundw
            case rel => exact ⟨2, by omega, by go_num, by rw [HT.out]; rfl, by first | rfl | trivial⟩
            case measure => simp [intOf]
          | false =>
            have HT := Lib.hid (atTo_succ s.toList 1 false hb)
            clear hi
            go_wp2_with fail
            go_roundw
            case rel => exact ⟨2, by omega, by go_num, by rw [HT.out]; rfl, by first | rfl | trivial⟩
            case measure => simp [intOf]
        ·
          cases hb : ([95, 109, 105, 110] == s.toList) with
          | true =>
            have HT := Lib.hid (atTo_succ s.toList 2 true hb)
            clear hi
            go_wp2_with fail
            go_roundw
            case rel => exact ⟨3, by omega, by go_num, by rw [HT.out]; rfl, by first | rfl | trivial⟩
            case measure => simp [intOf]
          | false =>
            have HT := Lib.hid (atTo_succ s.toList 2 false hb)
            clear hi
            go_wp2_with fail
            go_roundw
            case rel => exact ⟨3, by omega, by go_num, by rw [HT.out]; rfl, by first | rfl | trivial⟩
            case measure => simp [intOf]
        ·
          cases hb : ([95, 109, 97, 120] == s.toList) with
          | true =>
            have HT := Lib.hid (atTo_succ s.toList 3 true hb)
            clear hi
            go_wp2_with fail
            go_roundw
            case rel => exact ⟨4, by omega, by go_num, by rw [HT.out]; rfl, by first | rfl | trivial⟩
            case measure => simp [intOf]
          | false =>
            have HT := Lib.hid (atTo_succ s.toList 3 false hb)
            clear hi
            go_wp2_with fail
            go_roundw
            case rel => exact ⟨4, by omega, by go_num, by rw [HT.out]; rfl, by first | rfl | trivial⟩
            case measure => simp [intOf]
        ·
          cases hb : ([95, 115, 116, 97, 116, 115] == s.toList) with
          | true =>
            have HT := Lib.hid (atTo_succ s.toList 4 true hb)
            clear hi
            go_wp2_with fail
            go_roundw
            case rel => exact ⟨5, by omega, by go_num, by rw [HT.out]; rfl, by first | rfl | trivial⟩
            case measure => simp [intOf]
          | false =>
            have HT := Lib.hid (atTo_succ s.toList 4 false hb)
            clear hi
            go_wp2_with fail
            go_roundw
            case rel => exact ⟨5, by omega, by go_num, by rw [HT.out]; rfl, by first | rfl | trivial⟩
            case measure => simp [intOf]
        ·
          rw [HA.out]
          obtain ⟨ja, jl, jc, ra, rl, rc, hi⟩ := HV6.out
          have ZC := Lib.hid (Try_rZero (ValAt wr 1) X.to _ ja ra jl jc rl rc wr hi)
          obtain ⟨z, hz⟩ : ∃ z, zeroF X.to = z := ⟨_, rfl⟩
          rw [hz] at ZC
          have HZ := Lib.hid hz
          have q7 := K6.out.cells
          have l7 := K6.out.lt
          clear hi hz qn
          cases hok : r.ok with
          | false =>
            have hE : E = 230 := by rw [← HEE.out]; unfold toldE; rw [if_pos hok]
            have hz : z = true := by rw [← HZ.out, ← HXX.out]; unfold toldX; rw [if_pos (.inl hok)]; exact zero_leaf
            have HOK := Lib.hid hok
            clear hok HZ HXX HEE
            subst hE hz
            rcases (show (a = 0 ∧ g = 4) ∨ (0 < a ∧ g = 0) by have h := HG.out; by_cases h0 : a = 0; (rw [if_pos h0] at h; exact .inl ⟨h0, h.symm⟩); (rw [if_neg h0] at h; exact .inr ⟨by omega, h.symm⟩)) with ⟨ha, hg⟩ | ⟨ha, hg⟩
            · clear HA HG
              subst ha hg
              go_wp2_with fail
              refine ZC.out.mono ?_; rintro e wa ⟨rfl, hba⟩
              have B7 := Lib.hid (B6.out.ext hba)
              have BEL7 := Lib.hid (BEL6.out.trans (hba.mono BEL6.out.size))
              have q0 := B7.out.cells
              have l0 := B7.out.lt
              clear hba q7 l7
              go_wp2_with fail
              refine (Try_mRight r wa HFI.out.2.2.1 HFI.out.2.2.2).mono ?_; rintro e wb ⟨rfl, hbb⟩
              rw [HOK.out]
              have BEL8 := Lib.hid (BEL7.out.trans (hbb.mono BEL7.out.size))
              clear hbb q0 l0
              go_wp2
              go_ret
              exact ⟨rfl, BEL8.out⟩
            · have z1 : ((a : Int) == 0) = false := by rw [beq_eq_false_iff_ne]; omega
              have z2 : (0 : Int) < (a : Int) := by omega
              clear HA HG
              subst hg
              go_wp2_with fail
              refine ZC.out.mono ?_; rintro e wa ⟨rfl, hba⟩
              have B7 := Lib.hid (B6.out.ext hba)
              have BEL7 := Lib.hid (BEL6.out.trans (hba.mono BEL6.out.size))
              have q0 := B7.out.cells
              have l0 := B7.out.lt
              clear hba q7 l7
              go_wp2_with fail
              refine (Try_mRight r wa HFI.out.2.2.1 HFI.out.2.2.2).mono ?_; rintro e wb ⟨rfl, hbb⟩
              rw [HOK.out]
              have BEL8 := Lib.hid (BEL7.out.trans (hbb.mono BEL7.out.size))
              clear hbb q0 l0
              go_wp2
              go_ret
              exact ⟨rfl, BEL8.out⟩
          | true =>
            have hE : E = 2 := by rw [← HEE.out]; unfold toldE; rw [if_neg (by rw [hok]; decide), if_pos NOK.out]
            have hz : z = true := by rw [← HZ.out, ← HXX.out]; unfold toldX; rw [if_pos (.inr (by rcases NOK.out with h | h; exact .inl h; exact .inr (.inl h)))]; exact zero_leaf
            have HOK := Lib.hid hok
            clear hok HZ HXX HEE
            subst hE hz
            rcases (show (a = 0 ∧ g = 4) ∨ (0 < a ∧ g = 0) by have h := HG.out; by_cases h0 : a = 0; (rw [if_pos h0] at h; exact .inl ⟨h0, h.symm⟩); (rw [if_neg h0] at h; exact .inr ⟨by omega, h.symm⟩)) with ⟨ha, hg⟩ | ⟨ha, hg⟩
            · clear HA HG
              subst ha hg
              go_wp2_with fail
              refine ZC.out.mono ?_; rintro e wa ⟨rfl, hba⟩
              have B7 := Lib.hid (B6.out.ext hba)
              have BEL7 := Lib.hid (BEL6.out.trans (hba.mono BEL6.out.size))
              have q0 := B7.out.cells
              have l0 := B7.out.lt
              clear hba q7 l7
              go_wp2_with fail
              refine (Try_mRight r wa HFI.out.2.2.1 HFI.out.2.2.2).mono ?_; rintro e wb ⟨rfl, hbb⟩
              rw [HOK.out]
              have BEL8 := Lib.hid (BEL7.out.trans (hbb.mono BEL7.out.size))
              clear hbb q0 l0
              go_wp2
              go_ret
              exact ⟨rfl, BEL8.out⟩
            · have z1 : ((a : Int) == 0) = false := by rw [beq_eq_false_iff_ne]; omega
              have z2 : (0 : Int) < (a : Int) := by omega
              clear HA HG
              subst hg
              go_wp2_with fail
              refine ZC.out.mono ?_; rintro e wa ⟨rfl, hba⟩
              have B7 := Lib.hid (B6.out.ext hba)
              have BEL7 := Lib.hid (BEL6.out.trans (hba.mono BEL6.out.size))
              have q0 := B7.out.cells
              have l0 := B7.out.lt
              clear hba q7 l7
              go_wp2_with fail
              refine (Try_mRight r wa HFI.out.2.2.1 HFI.out.2.2.2).mono ?_; rintro e wb ⟨rfl, hbb⟩
              rw [HOK.out]
              have BEL8 := Lib.hid (BEL7.out.trans (hbb.mono BEL7.out.size))
              clear hbb q0 l0
              go_wp2
              go_ret
              exact ⟨rfl, BEL8.out⟩
    · have g1 : (1 : Int) ≤ k := by omega
      have g2 : ¬ k ≤ 5 := by omega
      have NOK := Lib.hid (show k < 1 ∨ 5 < k from hout)
      clear hout
      go_wp2_with fail
      obtain ⟨V, hV⟩ : ∃ V, w2.alloc (.cells #[.int .i64 k0, .int .i64 n0, .string s0, .slice ka kl kc, .slice qa ql qc] 51) = V := ⟨_, rfl⟩
      have hbV : Below w2.heap.size w2 V := by rw [← hV]; exact (by repeat (first | (with_reducible exact Below.refl _ _) | (with_reducible exact Below.refl _ _) | (with_reducible refine Below.setCell ?_ (by first | omega | (simp; done) | (simp; omega)) _) | (with_reducible refine Below.alloc ?_ (by first | omega | (simp; done) | (simp; omega)) _) | (with_reducible refine Below.drew ?_) | (with_reducible refine below_drewN ?_ _)))
      have K3 := Lib.hid (show Blk V w2.heap.size [.int .i64 k0, .int .i64 n0, .string s0, .slice ka kl kc, .slice qa ql qc] 51 by rw [← hV]; exact Blk.new _ _ _)
      have HV3 := Lib.hid (ValAt.ext hbV 2 HV2.out)
      have B3 := Lib.hid (B2.out.ext hbV)
      have BEL3 := Lib.hid (BEL2.out.trans (hbV.mono BEL2.out.size))
      rw [hV]
      clear hV hbV HV2 B2 BEL2
      refine (Try_Name_no k _ NOK.out).mono ?_; rintro e w4 ⟨rfl, hb4⟩
      have K4 := Lib.hid (K3.out.ext hb4)
      have HV4 := Lib.hid (ValAt.ext hb4 2 HV3.out)
      have B4 := Lib.hid (B3.out.ext hb4)
      have BEL4 := Lib.hid (BEL3.out.trans (hb4.mono BEL3.out.size))
      clear hb4 K3 HV3 B3 BEL3
      go_wp2_with fail
      refine (Try_Kind s w4).mono ?_; rintro e w5 ⟨rfl, hb5⟩
      rw [Try_kindAt]
      have K5 := Lib.hid (K4.out.ext hb5)
      have HV5 := Lib.hid (ValAt.ext hb5 2 HV4.out)
      have B5 := Lib.hid (B4.out.ext hb5)
      have BEL5 := Lib.hid (BEL4.out.trans (hb5.mono BEL4.out.size))
      clear hb5 K4 HV4 B4 BEL4
      obtain ⟨a, ha⟩ : ∃ a, atTo s.toList 5 = a := ⟨_, rfl⟩
      obtain ⟨g, hg⟩ : ∃ g : Int, (if atTo s.toList 5 = 0 then (4 : Int) else 0) = g := ⟨_, rfl⟩
      rw [hg, ha]
      rw [ha] at hg
      have HA := Lib.hid ha
      have HG := Lib.hid hg
      clear ha hg
      go_wp2_with fail
      refine (Try_Names w5).mono ?_; rintro e w6 ⟨rfl, hkn, hb6⟩
      have K6 := Lib.hid (K5.out.ext hb6)
      have HV6 := Lib.hid (ValAt.ext hb6 2 HV5.out)
      have B6 := Lib.hid (B5.out.ext hb6)
      have BEL6 := Lib.hid (BEL5.out.trans (hb6.mono BEL5.out.size))
      have N6 := Lib.hid hkn
      obtain ⟨p, hp⟩ : ∃ p, w5.heap.size = p := ⟨_, rfl⟩
      rw [hp] at N6 ⊢
      have qn := (show Blk w6 p [.string ⟨#[95, 99, 111, 117, 110, 116]⟩, .string ⟨#[95, 115, 117, 109]⟩, .string ⟨#[95, 109, 105, 110]⟩, .string ⟨#[95, 109, 97, 120]⟩, .string ⟨#[95, 115, 116, 97, 116, 115]⟩] 9 from N6.out).cells
      have ln := N6.out.lt
      clear hb6 K5 HV5 B5 BEL5 hkn hp
      go_wp2_with fail
      go_loopw [14, 42] (fun at_ ix wr => ∃ i : Nat, i ≤ 5 ∧ ix = .int .i64 (i : Int) ∧ at_ = .int .i64 ((atTo s.toList i : Nat) : Int) ∧ wr = w6) (fun _ ix _ => 5 - (intOf ix).toNat)
      case atStart => exact ⟨0, Nat.zero_le _, by go_num, rfl, rfl⟩
      case round =>
        obtain ⟨i, hi, rfl, rfl, rfl⟩ := hrel
        rcases (by omega : i = 0 ∨ i = 1 ∨ i = 2 ∨ i = 3 ∨ i = 4 ∨ i = 5) with rfl | rfl | rfl | rfl | rfl | rfl
        ·
          cases hb : ([95, 99, 111, 117, 110, 116] == s.toList) with
          | true =>
            have HT := Lib.hid (atTo_succ s.toList 0 true hb)
            clear hi
            go_wp2_with fail
            go_roundw
            case rel => exact ⟨1, by omega, by go_num, by rw [HT.out]; rfl, by first | rfl | trivial⟩
            case measure => simp [intOf]
          | false =>
            have HT := Lib.hid (atTo_succ s.toList 0 false hb)
            clear hi
            go_wp2_with fail
            go_roundw
            case rel => exact ⟨1, by omega, by go_num, by rw [HT.out]; rfl, by first | rfl | trivial⟩
            case measure => simp [intOf]
        ·
          cases hb : ([95, 115, 117, 109] == s.toList) with
          | true =>
            have HT := Lib.hid (atTo_succ s.toList 1 true hb)
            clear hi
            go_wp2_with fail
            go_roundw
            case rel => exact ⟨2, by omega, by go_num, by rw [HT.out]; rfl, by first | rfl | trivial⟩
            case measure => simp [intOf]
          | false =>
            have HT := Lib.hid (atTo_succ s.toList 1 false hb)
            clear hi
            go_wp2_with fail
            go_roundw
            case rel => exact ⟨2, by omega, by go_num, by rw [HT.out]; rfl, by first | rfl | trivial⟩
            case measure => simp [intOf]
        ·
          cases hb : ([95, 109, 105, 110] == s.toList) with
          | true =>
            have HT := Lib.hid (atTo_succ s.toList 2 true hb)
            clear hi
            go_wp2_with fail
            go_roundw
            case rel => exact ⟨3, by omega, by go_num, by rw [HT.out]; rfl, by first | rfl | trivial⟩
            case measure => simp [intOf]
          | false =>
            have HT := Lib.hid (atTo_succ s.toList 2 false hb)
            clear hi
            go_wp2_with fail
            go_roundw
            case rel => exact ⟨3, by omega, by go_num, by rw [HT.out]; rfl, by first | rfl | trivial⟩
            case measure => simp [intOf]
        ·
          cases hb : ([95, 109, 97, 120] == s.toList) with
          | true =>
            have HT := Lib.hid (atTo_succ s.toList 3 true hb)
            clear hi
            go_wp2_with fail
            go_roundw
            case rel => exact ⟨4, by omega, by go_num, by rw [HT.out]; rfl, by first | rfl | trivial⟩
            case measure => simp [intOf]
          | false =>
            have HT := Lib.hid (atTo_succ s.toList 3 false hb)
            clear hi
            go_wp2_with fail
            go_roundw
            case rel => exact ⟨4, by omega, by go_num, by rw [HT.out]; rfl, by first | rfl | trivial⟩
            case measure => simp [intOf]
        ·
          cases hb : ([95, 115, 116, 97, 116, 115] == s.toList) with
          | true =>
            have HT := Lib.hid (atTo_succ s.toList 4 true hb)
            clear hi
            go_wp2_with fail
            go_roundw
            case rel => exact ⟨5, by omega, by go_num, by rw [HT.out]; rfl, by first | rfl | trivial⟩
            case measure => simp [intOf]
          | false =>
            have HT := Lib.hid (atTo_succ s.toList 4 false hb)
            clear hi
            go_wp2_with fail
            go_roundw
            case rel => exact ⟨5, by omega, by go_num, by rw [HT.out]; rfl, by first | rfl | trivial⟩
            case measure => simp [intOf]
        ·
          rw [HA.out]
          obtain ⟨ja, jl, jc, ra, rl, rc, hi⟩ := HV6.out
          have ZC := Lib.hid (Try_rZero (ValAt wr 1) X.to _ ja ra jl jc rl rc wr hi)
          obtain ⟨z, hz⟩ : ∃ z, zeroF X.to = z := ⟨_, rfl⟩
          rw [hz] at ZC
          have HZ := Lib.hid hz
          have q7 := K6.out.cells
          have l7 := K6.out.lt
          clear hi hz qn
          cases hok : r.ok with
          | false =>
            have hE : E = 230 := by rw [← HEE.out]; unfold toldE; rw [if_pos hok]
            have hz : z = true := by rw [← HZ.out, ← HXX.out]; unfold toldX; rw [if_pos (.inl hok)]; exact zero_leaf
            have HOK := Lib.hid hok
            clear hok HZ HXX HEE
            subst hE hz
            rcases (show (a = 0 ∧ g = 4) ∨ (0 < a ∧ g = 0) by have h := HG.out; by_cases h0 : a = 0; (rw [if_pos h0] at h; exact .inl ⟨h0, h.symm⟩); (rw [if_neg h0] at h; exact .inr ⟨by omega, h.symm⟩)) with ⟨ha, hg⟩ | ⟨ha, hg⟩
            · clear HA HG
              subst ha hg
              go_wp2_with fail
              refine ZC.out.mono ?_; rintro e wa ⟨rfl, hba⟩
              have B7 := Lib.hid (B6.out.ext hba)
              have BEL7 := Lib.hid (BEL6.out.trans (hba.mono BEL6.out.size))
              have q0 := B7.out.cells
              have l0 := B7.out.lt
              clear hba q7 l7
              go_wp2_with fail
              refine (Try_mRight r wa HFI.out.2.2.1 HFI.out.2.2.2).mono ?_; rintro e wb ⟨rfl, hbb⟩
              rw [HOK.out]
              have BEL8 := Lib.hid (BEL7.out.trans (hbb.mono BEL7.out.size))
              clear hbb q0 l0
              go_wp2
              go_ret
              exact ⟨rfl, BEL8.out⟩
            · have z1 : ((a : Int) == 0) = false := by rw [beq_eq_false_iff_ne]; omega
              have z2 : (0 : Int) < (a : Int) := by omega
              clear HA HG
              subst hg
              go_wp2_with fail
              refine ZC.out.mono ?_; rintro e wa ⟨rfl, hba⟩
              have B7 := Lib.hid (B6.out.ext hba)
              have BEL7 := Lib.hid (BEL6.out.trans (hba.mono BEL6.out.size))
              have q0 := B7.out.cells
              have l0 := B7.out.lt
              clear hba q7 l7
              go_wp2_with fail
              refine (Try_mRight r wa HFI.out.2.2.1 HFI.out.2.2.2).mono ?_; rintro e wb ⟨rfl, hbb⟩
              rw [HOK.out]
              have BEL8 := Lib.hid (BEL7.out.trans (hbb.mono BEL7.out.size))
              clear hbb q0 l0
              go_wp2
              go_ret
              exact ⟨rfl, BEL8.out⟩
          | true =>
            have hE : E = 2 := by rw [← HEE.out]; unfold toldE; rw [if_neg (by rw [hok]; decide), if_pos NOK.out]
            have hz : z = true := by rw [← HZ.out, ← HXX.out]; unfold toldX; rw [if_pos (.inr (by rcases NOK.out with h | h; exact .inl h; exact .inr (.inl h)))]; exact zero_leaf
            have HOK := Lib.hid hok
            clear hok HZ HXX HEE
            subst hE hz
            rcases (show (a = 0 ∧ g = 4) ∨ (0 < a ∧ g = 0) by have h := HG.out; by_cases h0 : a = 0; (rw [if_pos h0] at h; exact .inl ⟨h0, h.symm⟩); (rw [if_neg h0] at h; exact .inr ⟨by omega, h.symm⟩)) with ⟨ha, hg⟩ | ⟨ha, hg⟩
            · clear HA HG
              subst ha hg
              go_wp2_with fail
              refine ZC.out.mono ?_; rintro e wa ⟨rfl, hba⟩
              have B7 := Lib.hid (B6.out.ext hba)
              have BEL7 := Lib.hid (BEL6.out.trans (hba.mono BEL6.out.size))
              have q0 := B7.out.cells
              have l0 := B7.out.lt
              clear hba q7 l7
              go_wp2_with fail
              refine (Try_mRight r wa HFI.out.2.2.1 HFI.out.2.2.2).mono ?_; rintro e wb ⟨rfl, hbb⟩
              rw [HOK.out]
              have BEL8 := Lib.hid (BEL7.out.trans (hbb.mono BEL7.out.size))
              clear hbb q0 l0
              go_wp2
              go_ret
              exact ⟨rfl, BEL8.out⟩
            · have z1 : ((a : Int) == 0) = false := by rw [beq_eq_false_iff_ne]; omega
              have z2 : (0 : Int) < (a : Int) := by omega
              clear HA HG
              subst hg
              go_wp2_with fail
              refine ZC.out.mono ?_; rintro e wa ⟨rfl, hba⟩
              have B7 := Lib.hid (B6.out.ext hba)
              have BEL7 := Lib.hid (BEL6.out.trans (hba.mono BEL6.out.size))
              have q0 := B7.out.cells
              have l0 := B7.out.lt
              clear hba q7 l7
              go_wp2_with fail
              refine (Try_mRight r wa HFI.out.2.2.1 HFI.out.2.2.2).mono ?_; rintro e wb ⟨rfl, hbb⟩
              rw [HOK.out]
              have BEL8 := Lib.hid (BEL7.out.trans (hbb.mono BEL7.out.size))
              clear hbb q0 l0
              go_wp2
              go_ret
              exact ⟨rfl, BEL8.out⟩
end Go.Proofs.Ytdebmifjfemcjaa
