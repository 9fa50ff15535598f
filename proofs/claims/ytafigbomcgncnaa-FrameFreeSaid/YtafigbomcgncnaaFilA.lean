/-
  Layer 10: how many bytes a file has, and whether it may be: length, Check, Len, and the reference's Long and Right, walked.
-/
import Derived.Test.YtafigbomcgncnaaProg
import Derived.Test.YtafigbomcgncnaaFilD
import Derived.Test.YtafigbomcgncnaaFree
import Derived.WalkKit
import Derived.WalkSpells
import Derived.WalkLawsBesides
import Derived.BigQuiet
import Derived.Lib.Hide
namespace Go.Proofs.Ytafigbomcgncnaa
set_option linter.unusedVariables false
set_option linter.unusedSimpArgs false
open Go.RowKit Go.Dav
attribute [local go_sem] Gives ite_val ite_val_true

def TryLenRel (w : World) (F : FileD) (fl : Nat) (cs : List Value) (ix n : Value) (wr : World) : Prop :=
  ∃ k m : Nat, k ≤ F.loose.length ∧ m = fl + sumTo F.loose k ∧ ix = .int .i64 k ∧ n = .int .i64 m ∧ ((F.loose.take k).all fun p => !p.isEmpty) = true ∧ (0 < k → fl + sumTo F.loose k ≤ 524288) ∧
    wr = w.alloc (.cells cs.toArray 25)

set_option maxRecDepth 8000 in
set_option maxHeartbeats 4000000 in
theorem Try_length (F : FileD) (fa la : Option Addr) (fl fc ll lc : Nat) (w : World) (hF : FileAt w fa fl fc la ll lc F) :
    Calls Try.prog 32 #[.agg #[.slice fa fl fc, .slice la ll lc, .int .i64 F.fuse, .int .i64 F.fault, .bool F.off]] w fun e w' => e = .returned (.int .i64 F.len) ∧ Below w.heap.size w w' := by
  have e1 := hF.loose.hlen
  have e2 := hF.firm.hlen
  have b1 := hF.loose.hfew
  have b2 := hF.firm.hfew
  have b3 : (fl : Int) ≤ 140737488355328 := by omega
  have HAT := Lib.hid hF; clear hF
  have H1 := Lib.hid e1; clear e1
  have H2 := Lib.hid e2; clear e2
  go_enter Try.func32, Try.ntmps32
  go_wp2_with fail
  go_loopw [12, 3] (fun ix n wr => TryLenRel w F fl [.slice fa fl fc, .slice la ll lc, .int .i64 F.fuse, .int .i64 F.fault, .bool F.off] ix n wr) (fun ix _ _ => ll - (intOf ix).toNat)
  case atStart => exact ⟨0, fl, Nat.zero_le _, by rw [sumTo_zero]; rfl, rfl, rfl, by simp, fun h => by omega, rfl⟩
  case round =>
    obtain ⟨k, m, hk, hm, rfl, rfl, hfull, hle, rfl⟩ := hrel
    have hmm : (m : Int) ≤ 140737488355328 := by
      by_cases h0 : 0 < k
      · have := hle h0; omega
      · have : k = 0 := by omega
        subst this; rw [sumTo_zero] at hm; omega
    have hmono := sumTo_mono F.loose k
    have HM := Lib.hid hm
    have HFU := Lib.hid hfull
    have HLE := Lib.hid hle
    have HMO := Lib.hid hmono
    have hk2 : k ≤ ll := by have := H1.out; omega
    clear hm hfull hle hmono
    by_cases hlt : k < F.loose.length
    · obtain ⟨p, hp⟩ : ∃ p, F.loose[k]? = some p := ⟨_, List.getElem?_eq_getElem hlt⟩
      obtain ⟨b, o, pa, pl, pc, rfl, hb, hc, hP⟩ := HAT.out.loose.hat k p hp
      have hpl := hP.hlen
      have hpf := hP.hfew
      have hp2 : (pl : Int) ≤ 140737488355328 := by omega
      have HS := Lib.hid (sumTo_succ hp)
      have HT := Lib.hid (full_take hp)
      have HP := Lib.hid hpl
      have HPP := Lib.hid hp
      have hkl : (k : Int) < (ll : Int) := by have := H1.out; omega
      have HLT := Lib.hid hlt
      clear hp hlt hP hpl hk
      by_cases h0 : pl = 0
      · subst h0
        have hval : F.len = -1 := by
          unfold FileD.len FileD.full
          rw [if_neg]
          intro h
          have := List.all_eq_true.1 h.1 p (List.mem_of_getElem? HPP.out)
          have hnil : p = [] := List.length_eq_zero_iff.1 HP.out
          rw [hnil] at this; cases this
        have HV := Lib.hid hval; clear hval
        go_wp2
        go_ret
        exact ⟨ret_int HV.out.symm, (by repeat (first | (with_reducible exact Below.refl _ _) | (with_reducible exact Below.refl _ _) | (with_reducible refine Below.setCell ?_ (by first | omega | (simp; done) | (simp; omega)) _) | (with_reducible refine Below.alloc ?_ (by first | omega | (simp; done) | (simp; omega)) _) | (with_reducible refine Below.drew ?_) | (with_reducible refine below_drewN ?_ _)))⟩
      · have h0' : ((pl : Int) == 0) = false := by simp; omega
        by_cases h5 : (m : Int) + pl ≤ 524288
        · go_wp2
          go_roundw
          case rel =>
            have := HM.out
            have := HS.out
            have := HP.out
            exact ⟨k + 1, m + pl, HLT.out, by omega, by go_num, by go_num, by rw [HT.out, HFU.out]; cases p with | nil => simp at this; omega | cons => rfl, fun _ => by omega, rfl⟩
          case measure => simp [intOf]; omega
        · have h6 : (524288 : Int) < (m : Int) + pl := by omega
          have hval : F.len = -1 := by
            unfold FileD.len
            rw [if_neg]
            intro h
            have h1 := h.2
            unfold FileD.many at h1
            have h2 := sumTo_mono F.loose (k + 1)
            have := HM.out
            have := HS.out
            have := HP.out
            have := H2.out
            omega
          have HV := Lib.hid hval; clear hval
          go_wp2
          go_ret
          exact ⟨ret_int HV.out.symm, (by repeat (first | (with_reducible exact Below.refl _ _) | (with_reducible exact Below.refl _ _) | (with_reducible refine Below.setCell ?_ (by first | omega | (simp; done) | (simp; omega)) _) | (with_reducible refine Below.alloc ?_ (by first | omega | (simp; done) | (simp; omega)) _) | (with_reducible refine Below.drew ?_) | (with_reducible refine below_drewN ?_ _)))⟩
    · have hkl : k = F.loose.length := by omega
      have hk3 : ¬ ((k : Int) < (ll : Int)) := by have := H1.out; omega
      have hmany : F.many = m := by
        have := HM.out
        have := H2.out
        unfold FileD.many
        rw [hkl, sumTo_all] at *
        omega
      have hf : F.full = true := by
        have h := HFU.out
        rw [hkl, List.take_length] at h
        exact h
      have HMA := Lib.hid hmany; clear hmany
      clear hkl hk hlt
      by_cases h5 : (m : Int) ≤ 524288
      · have hval : F.len = (m : Int) := by
          unfold FileD.len
          rw [if_pos ⟨hf, by rw [HMA.out]; omega⟩, HMA.out]
        have HV := Lib.hid hval; clear hval hf
        go_wp2
        go_ret
        exact ⟨ret_int HV.out.symm, (by repeat (first | (with_reducible exact Below.refl _ _) | (with_reducible exact Below.refl _ _) | (with_reducible refine Below.setCell ?_ (by first | omega | (simp; done) | (simp; omega)) _) | (with_reducible refine Below.alloc ?_ (by first | omega | (simp; done) | (simp; omega)) _) | (with_reducible refine Below.drew ?_) | (with_reducible refine below_drewN ?_ _)))⟩
      · have h6 : (524288 : Int) < (m : Int) := by omega
        have hval : F.len = -1 := by
          unfold FileD.len
          rw [if_neg (fun h => by have := h.2; rw [HMA.out] at this; omega)]
        have HV := Lib.hid hval; clear hval hf
        go_wp2
        go_ret
        exact ⟨ret_int HV.out.symm, (by repeat (first | (with_reducible exact Below.refl _ _) | (with_reducible exact Below.refl _ _) | (with_reducible refine Below.setCell ?_ (by first | omega | (simp; done) | (simp; omega)) _) | (with_reducible refine Below.alloc ?_ (by first | omega | (simp; done) | (simp; omega)) _) | (with_reducible refine Below.drew ?_) | (with_reducible refine below_drewN ?_ _)))⟩

set_option maxRecDepth 8000 in
set_option maxHeartbeats 4000000 in
theorem Try_Check (F : FileD) (fa la : Option Addr) (fl fc ll lc : Nat) (w : World) (hF : FileAt w fa fl fc la ll lc F) :
    Calls Try.prog 11 #[.agg #[.slice fa fl fc, .slice la ll lc, .int .i64 F.fuse, .int .i64 F.fault, .bool F.off]] w fun e w' => e = .returned (.int .i64 F.err) ∧ Below w.heap.size w w' := by
  have hF' := hF.ext ((Below.refl _ w).alloc (Nat.le_refl _) (.cells #[.slice fa fl fc, .slice la ll lc, .int .i64 F.fuse, .int .i64 F.fault, .bool F.off] 25))
  have HAT := Lib.hid hF'; clear hF' hF
  have hrl := @FileD.right_len F
  by_cases h1 : F.fuse < -1
  · have hval : F.err = 200 := by unfold FileD.err; rw [if_neg]; rw [hrl]; omega
    have HV := Lib.hid hval; clear hval hrl
    go_enter Try.func11, Try.ntmps11
    go_wp2
    go_ret
    exact ⟨ret_int HV.out.symm, (by repeat (first | (with_reducible exact Below.refl _ _) | (with_reducible exact Below.refl _ _) | (with_reducible refine Below.setCell ?_ (by first | omega | (simp; done) | (simp; omega)) _) | (with_reducible refine Below.alloc ?_ (by first | omega | (simp; done) | (simp; omega)) _) | (with_reducible refine Below.drew ?_) | (with_reducible refine below_drewN ?_ _)))⟩
  · by_cases h2 : F.fault < -1
    · have hval : F.err = 200 := by unfold FileD.err; rw [if_neg]; rw [hrl]; omega
      have HV := Lib.hid hval; clear hval hrl
      go_enter Try.func11, Try.ntmps11
      go_wp2
      go_ret
      exact ⟨ret_int HV.out.symm, (by repeat (first | (with_reducible exact Below.refl _ _) | (with_reducible exact Below.refl _ _) | (with_reducible refine Below.setCell ?_ (by first | omega | (simp; done) | (simp; omega)) _) | (with_reducible refine Below.alloc ?_ (by first | omega | (simp; done) | (simp; omega)) _) | (with_reducible refine Below.drew ?_) | (with_reducible refine below_drewN ?_ _)))⟩
    · by_cases h3 : F.off = true ∧ F.fuse ≠ -1
      · obtain ⟨h3, h4⟩ := h3
        have hval : F.err = 200 := by unfold FileD.err; rw [if_neg]; rw [hrl]; intro h; exact h4 (h.2.2.1 h3)
        have HV := Lib.hid hval; clear hval hrl
        have h4' : (F.fuse != -1) = true := by simpa using h4
        rw [h3] at HAT ⊢
        go_enter Try.func11, Try.ntmps11
        go_wp2
        go_ret
        exact ⟨ret_int HV.out.symm, (by repeat (first | (with_reducible exact Below.refl _ _) | (with_reducible exact Below.refl _ _) | (with_reducible refine Below.setCell ?_ (by first | omega | (simp; done) | (simp; omega)) _) | (with_reducible refine Below.alloc ?_ (by first | omega | (simp; done) | (simp; omega)) _) | (with_reducible refine Below.drew ?_) | (with_reducible refine below_drewN ?_ _)))⟩
      · have hval : F.err = if F.len < 0 then 200 else 0 := by
          unfold FileD.err
          by_cases h5 : F.len < 0
          · rw [if_pos h5, if_neg]; rw [hrl]; omega
          · rw [if_neg h5, if_pos]; rw [hrl]
            refine ⟨by omega, by omega, fun h => ?_, by omega⟩
            apply Classical.byContradiction
            intro h6
            exact h3 ⟨h, h6⟩
        have HV := Lib.hid hval; clear hval hrl
        cases hoff : F.off with
        | true =>
          have h4 : F.fuse = -1 := by
            apply Classical.byContradiction
            intro h6
            exact h3 ⟨hoff, h6⟩
          have h4' : (F.fuse != -1) = false := by simp [h4]
          rw [hoff] at HAT
          clear h4 h3
          go_enter Try.func11, Try.ntmps11
          go_wp2_with fail
          have hL := Try_length F fa la fl fc ll lc _ (by rw [← hoff] at HAT; exact HAT.out)
          rw [hoff] at hL
          refine hL.mono ?_; rintro e w1 ⟨rfl, hb1⟩
          clear hL
          by_cases h5 : F.len < 0
          · go_wp2
            go_ret
            exact ⟨ret_int (HV.out.trans (if_pos (by omega))).symm, (by repeat (first | (with_reducible exact Below.refl _ _) | (with_reducible exact Below.refl _ _) | (with_reducible refine Below.setCell ?_ (by first | omega | (simp; done) | (simp; omega)) _) | (with_reducible refine Below.alloc ?_ (by first | omega | (simp; done) | (simp; omega)) _) | (with_reducible refine Below.drew ?_) | (with_reducible refine below_drewN ?_ _) | (with_reducible refine Below.trans ?_ (hb1.mono (by first | omega | (simp; done) | (simp; omega))))))⟩
          · go_wp2
            go_ret
            exact ⟨ret_int (HV.out.trans (if_neg (by omega))).symm, (by repeat (first | (with_reducible exact Below.refl _ _) | (with_reducible exact Below.refl _ _) | (with_reducible refine Below.setCell ?_ (by first | omega | (simp; done) | (simp; omega)) _) | (with_reducible refine Below.alloc ?_ (by first | omega | (simp; done) | (simp; omega)) _) | (with_reducible refine Below.drew ?_) | (with_reducible refine below_drewN ?_ _) | (with_reducible refine Below.trans ?_ (hb1.mono (by first | omega | (simp; done) | (simp; omega))))))⟩
        | false =>
          rw [hoff] at HAT
          clear h3
          go_enter Try.func11, Try.ntmps11
          go_wp2_with fail
          have hL := Try_length F fa la fl fc ll lc _ (by rw [← hoff] at HAT; exact HAT.out)
          rw [hoff] at hL
          refine hL.mono ?_; rintro e w1 ⟨rfl, hb1⟩
          clear hL
          by_cases h5 : F.len < 0
          · go_wp2
            go_ret
            exact ⟨ret_int (HV.out.trans (if_pos (by omega))).symm, (by repeat (first | (with_reducible exact Below.refl _ _) | (with_reducible exact Below.refl _ _) | (with_reducible refine Below.setCell ?_ (by first | omega | (simp; done) | (simp; omega)) _) | (with_reducible refine Below.alloc ?_ (by first | omega | (simp; done) | (simp; omega)) _) | (with_reducible refine Below.drew ?_) | (with_reducible refine below_drewN ?_ _) | (with_reducible refine Below.trans ?_ (hb1.mono (by first | omega | (simp; done) | (simp; omega))))))⟩
          · go_wp2
            go_ret
            exact ⟨ret_int (HV.out.trans (if_neg (by omega))).symm, (by repeat (first | (with_reducible exact Below.refl _ _) | (with_reducible exact Below.refl _ _) | (with_reducible refine Below.setCell ?_ (by first | omega | (simp; done) | (simp; omega)) _) | (with_reducible refine Below.alloc ?_ (by first | omega | (simp; done) | (simp; omega)) _) | (with_reducible refine Below.drew ?_) | (with_reducible refine below_drewN ?_ _) | (with_reducible refine Below.trans ?_ (hb1.mono (by first | omega | (simp; done) | (simp; omega))))))⟩
end Go.Proofs.Ytafigbomcgncnaa
