/-
  Layer 10: Len, and the reference's Long and Right, walked.
-/
import Derived.Test.YtmjmjjakhmeogaaFilA
namespace Go.Proofs.Ytmjmjjakhmeogaa
set_option linter.unusedVariables false
set_option linter.unusedSimpArgs false
open Go.RowKit Go.Dav
attribute [local go_sem] Gives ite_val ite_val_true

/-- What 'Long' answers: how many bytes, or more than may be. -/
def TryLong (F : FileD) (w : World) (e : Ending) (w' : World) : Prop :=
  ∃ n : Nat, e = .returned (.int .i64 n) ∧ (F.many ≤ 524288 → n = F.many) ∧ (524288 < F.many → 524288 < n) ∧ n ≤ 281474976710656 ∧ Below w.heap.size w w'

def TryLongRel (w : World) (F : FileD) (fl : Nat) (cs : List Value) (ix n : Value) (wr : World) : Prop :=
  ∃ k m : Nat, k ≤ F.loose.length ∧ m = fl + sumTo F.loose k ∧ ix = .int .i64 k ∧ n = .int .i64 m ∧ m ≤ 281474976710656 ∧ wr = w.alloc (.cells cs.toArray 25)

set_option maxRecDepth 8000 in
set_option maxHeartbeats 4000000 in
theorem Try_Long (F : FileD) (fa la : Option Addr) (fl fc ll lc : Nat) (w : World) (hF : FileAt w fa fl fc la ll lc F) :
    Calls Try.prog 45 #[.agg #[.slice fa fl fc, .slice la ll lc, .int .i64 F.fuse, .int .i64 F.fault, .bool F.off]] w (TryLong F w) := by
  have e1 := hF.loose.hlen
  have e2 := hF.firm.hlen
  have b1 := hF.loose.hfew
  have b2 := hF.firm.hfew
  have b3 : (fl : Int) ≤ 140737488355328 := by omega
  have HAT := Lib.hid hF; clear hF
  have H1 := Lib.hid e1; clear e1
  have H2 := Lib.hid e2; clear e2
  go_enter Try.func45, Try.ntmps45
  go_wp2_with fail
  go_loopw [4, 3] (fun ix n wr => TryLongRel w F fl [.slice fa fl fc, .slice la ll lc, .int .i64 F.fuse, .int .i64 F.fault, .bool F.off] ix n wr) (fun ix _ _ => ll - (intOf ix).toNat)
  case atStart => exact ⟨0, fl, Nat.zero_le _, by rw [sumTo_zero]; rfl, rfl, rfl, by omega, rfl⟩
  case round =>
    obtain ⟨k, m, hk, hm, rfl, rfl, hmm, rfl⟩ := hrel
    have hmono := sumTo_mono F.loose k
    have HM := Lib.hid hm
    have HMO := Lib.hid hmono
    have hk2 : k ≤ ll := by have := H1.out; omega
    have hmi : (m : Int) ≤ 281474976710656 := by omega
    clear hm hmono
    by_cases hlt : k < F.loose.length
    · obtain ⟨p, hp⟩ : ∃ p, F.loose[k]? = some p := ⟨_, List.getElem?_eq_getElem hlt⟩
      obtain ⟨b, o, pa, pl, pc, rfl, hb, hc, hP⟩ := HAT.out.loose.hat k p hp
      have hpl := hP.hlen
      have hpf := hP.hfew
      have hp2 : (pl : Int) ≤ 140737488355328 := by omega
      have HS := Lib.hid (sumTo_succ hp)
      have HP := Lib.hid hpl
      have hkl : (k : Int) < (ll : Int) := by have := H1.out; omega
      have HLT := Lib.hid hlt
      clear hp hlt hP hpl hk
      by_cases h5 : (m : Int) ≤ 524288
      · go_wp2
        go_roundw
        case rel =>
          have := HM.out
          have := HS.out
          have := HP.out
          exact ⟨k + 1, m + pl, HLT.out, by omega, by go_num, by go_num, by omega, rfl⟩
        case measure => simp [intOf]; omega
      · have hval : ¬ F.many ≤ 524288 := by
          have := HM.out
          have := HMO.out
          have := H2.out
          unfold FileD.many
          omega
        have HV := Lib.hid hval; clear hval
        go_wp2
        go_ret
        exact ⟨m, rfl, fun h => absurd h HV.out, fun _ => by omega, hmm, (by repeat (first | (with_reducible exact Below.refl _ _) | (with_reducible exact Below.refl _ _) | (with_reducible refine Below.setCell ?_ (by first | omega | (simp; done) | (simp; omega)) _) | (with_reducible refine Below.alloc ?_ (by first | omega | (simp; done) | (simp; omega)) _) | (with_reducible refine Below.drew ?_) | (with_reducible refine below_drewN ?_ _)))⟩
    · have hkl : k = F.loose.length := by omega
      have hk3 : ¬ ((k : Int) < (ll : Int)) := by have := H1.out; omega
      have hmany : F.many = m := by
        have := HM.out
        have := H2.out
        unfold FileD.many
        rw [hkl, sumTo_all] at *
        omega
      have HMA := Lib.hid hmany; clear hmany
      clear hkl hk hlt
      by_cases h5 : (m : Int) ≤ 524288
      · go_wp2
        go_ret
        exact ⟨m, rfl, fun _ => HMA.out.symm, fun h => by have := HMA.out; omega, hmm, (by repeat (first | (with_reducible exact Below.refl _ _) | (with_reducible exact Below.refl _ _) | (with_reducible refine Below.setCell ?_ (by first | omega | (simp; done) | (simp; omega)) _) | (with_reducible refine Below.alloc ?_ (by first | omega | (simp; done) | (simp; omega)) _) | (with_reducible refine Below.drew ?_) | (with_reducible refine below_drewN ?_ _)))⟩
      · go_wp2
        go_ret
        exact ⟨m, rfl, fun _ => HMA.out.symm, fun h => by have := HMA.out; omega, hmm, (by repeat (first | (with_reducible exact Below.refl _ _) | (with_reducible exact Below.refl _ _) | (with_reducible refine Below.setCell ?_ (by first | omega | (simp; done) | (simp; omega)) _) | (with_reducible refine Below.alloc ?_ (by first | omega | (simp; done) | (simp; omega)) _) | (with_reducible refine Below.drew ?_) | (with_reducible refine below_drewN ?_ _)))⟩

def TryRightRel (w : World) (F : FileD) (cs : List Value) (ix : Value) (wr : World) : Prop :=
  ∃ k : Nat, k ≤ F.loose.length ∧ ix = .int .i64 k ∧ ((F.loose.take k).all fun p => !p.isEmpty) = true ∧ wr = w.alloc (.cells cs.toArray 25)

set_option maxRecDepth 8000 in
set_option maxHeartbeats 4000000 in
theorem Try_Right (F : FileD) (fa la : Option Addr) (fl fc ll lc : Nat) (w : World) (hF : FileAt w fa fl fc la ll lc F) :
    Calls Try.prog 22 #[.agg #[.slice fa fl fc, .slice la ll lc, .int .i64 F.fuse, .int .i64 F.fault, .bool F.off]] w fun e w' => e = .returned (.bool F.right) ∧ Below w.heap.size w w' := by
  have hF' := hF.ext ((Below.refl _ w).alloc (Nat.le_refl _) (.cells #[.slice fa fl fc, .slice la ll lc, .int .i64 F.fuse, .int .i64 F.fault, .bool F.off] 25))
  have e1 := hF.loose.hlen
  have b1 := hF.loose.hfew
  have hL := Try_Long F fa la fl fc ll lc _ hF'
  have HLO := Lib.hid hL; clear hL
  have HAT := Lib.hid hF; clear hF hF'
  have H1 := Lib.hid e1; clear e1
  go_enter Try.func22, Try.ntmps22
  go_wp2_with fail
  go_loopw [3] (fun ix wr => TryRightRel w F [.slice fa fl fc, .slice la ll lc, .int .i64 F.fuse, .int .i64 F.fault, .bool F.off] ix wr) (fun ix _ => ll - (intOf ix).toNat)
  case atStart => exact ⟨0, Nat.zero_le _, rfl, by simp, rfl⟩
  case round =>
    obtain ⟨k, hk, rfl, hfull, rfl⟩ := hrel
    have hk2 : k ≤ ll := by have := H1.out; omega
    have HFU := Lib.hid hfull; clear hfull
    by_cases hlt : k < F.loose.length
    · obtain ⟨p, hp⟩ : ∃ p, F.loose[k]? = some p := ⟨_, List.getElem?_eq_getElem hlt⟩
      obtain ⟨b, o, pa, pl, pc, rfl, hb, hc, hP⟩ := HAT.out.loose.hat k p hp
      have hpl := hP.hlen
      have HT := Lib.hid (full_take hp)
      have HP := Lib.hid hpl
      have HPP := Lib.hid hp
      have hkl : (k : Int) < (ll : Int) := by have := H1.out; omega
      have HLT := Lib.hid hlt
      clear hp hlt hP hpl hk
      by_cases h0 : pl = 0
      · subst h0
        have hval : F.right = false := by
          rw [Bool.eq_false_iff]
          intro h
          have h1 := (FileD.right_spec.1 h).1
          have := List.all_eq_true.1 h1 p (List.mem_of_getElem? HPP.out)
          have hnil : p = [] := List.length_eq_zero_iff.1 HP.out
          rw [hnil] at this; cases this
        have HV := Lib.hid hval; clear hval
        go_wp2
        go_ret
        exact ⟨ret_bool HV.out.symm, (by repeat (first | (with_reducible exact Below.refl _ _) | (with_reducible exact Below.refl _ _) | (with_reducible refine Below.setCell ?_ (by first | omega | (simp; done) | (simp; omega)) _) | (with_reducible refine Below.alloc ?_ (by first | omega | (simp; done) | (simp; omega)) _) | (with_reducible refine Below.drew ?_) | (with_reducible refine below_drewN ?_ _)))⟩
      · have h0' : ((pl : Int) == 0) = false := by simp; omega
        go_wp2
        go_roundw
        case rel =>
          have := HP.out
          exact ⟨k + 1, HLT.out, by go_num, by rw [HT.out, HFU.out]; cases p with | nil => simp at this; omega | cons => rfl, rfl⟩
        case measure => simp [intOf]; omega
    · have hkl : k = F.loose.length := by omega
      have hk3 : ¬ ((k : Int) < (ll : Int)) := by have := H1.out; omega
      have hf : F.full = true := by
        have h := HFU.out
        rw [hkl, List.take_length] at h
        exact h
      have hrs := @FileD.right_spec F
      clear hkl hk hlt HFU
      have HF := Lib.hid hf; clear hf
      have HRS := Lib.hid hrs; clear hrs
      by_cases h1 : F.fuse < -1
      · have HV := Lib.hid (show F.right = false by rw [Bool.eq_false_iff]; intro h; have := HRS.out.1 h; omega)
        go_wp2
        go_ret
        exact ⟨ret_bool HV.out.symm, (by repeat (first | (with_reducible exact Below.refl _ _) | (with_reducible exact Below.refl _ _) | (with_reducible refine Below.setCell ?_ (by first | omega | (simp; done) | (simp; omega)) _) | (with_reducible refine Below.alloc ?_ (by first | omega | (simp; done) | (simp; omega)) _) | (with_reducible refine Below.drew ?_) | (with_reducible refine below_drewN ?_ _)))⟩
      · by_cases h2 : F.fault < -1
        · have HV := Lib.hid (show F.right = false by rw [Bool.eq_false_iff]; intro h; have := HRS.out.1 h; omega)
          go_wp2
          go_ret
          exact ⟨ret_bool HV.out.symm, (by repeat (first | (with_reducible exact Below.refl _ _) | (with_reducible exact Below.refl _ _) | (with_reducible refine Below.setCell ?_ (by first | omega | (simp; done) | (simp; omega)) _) | (with_reducible refine Below.alloc ?_ (by first | omega | (simp; done) | (simp; omega)) _) | (with_reducible refine Below.drew ?_) | (with_reducible refine below_drewN ?_ _)))⟩
        · cases hoff : F.off with
          | true =>
            rw [hoff] at HLO
            by_cases h3 : F.fuse = -1
            · have h3' : (F.fuse == -1) = true := by simpa using h3
              have H3 := Lib.hid h3; clear h3
              go_wp2_with fail
              refine HLO.out.mono ?_; rintro e w1 ⟨n, rfl, hn1, hn2, hn3, hb1⟩
              have HN := Lib.hid (show F.right = decide ((n : Int) ≤ 524288) by
                rw [Bool.eq_iff_iff, HRS.out]; simp only [decide_eq_true_eq]
                constructor
                · intro h; have := hn1 h.2.2.2.2; omega
                · intro h; exact ⟨HF.out, by omega, by omega, fun _ => H3.out, by omega⟩)
              clear hn1 hn2
              go_wp2
              go_ret
              exact ⟨ret_bool HN.out.symm, (by repeat (first | (with_reducible exact Below.refl _ _) | (with_reducible exact Below.refl _ _) | (with_reducible refine Below.setCell ?_ (by first | omega | (simp; done) | (simp; omega)) _) | (with_reducible refine Below.alloc ?_ (by first | omega | (simp; done) | (simp; omega)) _) | (with_reducible refine Below.drew ?_) | (with_reducible refine below_drewN ?_ _) | (with_reducible refine Below.trans ?_ (hb1.mono (by first | omega | (simp; done) | (simp; omega))))))⟩
            · have h3' : (F.fuse == -1) = false := by simpa using h3
              have HV := Lib.hid (show F.right = false by rw [Bool.eq_false_iff]; intro h; exact h3 ((HRS.out.1 h).2.2.2.1 hoff))
              clear h3
              go_wp2
              go_ret
              exact ⟨ret_bool HV.out.symm, (by repeat (first | (with_reducible exact Below.refl _ _) | (with_reducible exact Below.refl _ _) | (with_reducible refine Below.setCell ?_ (by first | omega | (simp; done) | (simp; omega)) _) | (with_reducible refine Below.alloc ?_ (by first | omega | (simp; done) | (simp; omega)) _) | (with_reducible refine Below.drew ?_) | (with_reducible refine below_drewN ?_ _)))⟩
          | false =>
            rw [hoff] at HLO
            go_wp2_with fail
            refine HLO.out.mono ?_; rintro e w1 ⟨n, rfl, hn1, hn2, hn3, hb1⟩
            have HN := Lib.hid (show F.right = decide ((n : Int) ≤ 524288) by
              rw [Bool.eq_iff_iff, HRS.out]; simp only [decide_eq_true_eq]
              constructor
              · intro h; have := hn1 h.2.2.2.2; omega
              · intro h; exact ⟨HF.out, by omega, by omega, fun h4 => (by rw [hoff] at h4; cases h4), by omega⟩)
            clear hn1 hn2
            go_wp2
            go_ret
            exact ⟨ret_bool HN.out.symm, (by repeat (first | (with_reducible exact Below.refl _ _) | (with_reducible exact Below.refl _ _) | (with_reducible refine Below.setCell ?_ (by first | omega | (simp; done) | (simp; omega)) _) | (with_reducible refine Below.alloc ?_ (by first | omega | (simp; done) | (simp; omega)) _) | (with_reducible refine Below.drew ?_) | (with_reducible refine below_drewN ?_ _) | (with_reducible refine Below.trans ?_ (hb1.mono (by first | omega | (simp; done) | (simp; omega))))))⟩

theorem FileD.len_right {F : FileD} (h : F.right = true) : F.len = F.many := by
  have := FileD.right_spec.1 h
  unfold FileD.len
  rw [if_pos ⟨this.1, this.2.2.2.2⟩]

set_option maxHeartbeats 4000000 in
theorem Try_Len (F : FileD) (fa la : Option Addr) (fl fc ll lc : Nat) (w : World) (hF : FileAt w fa fl fc la ll lc F) :
    Calls Try.prog 26 #[.agg #[.slice fa fl fc, .slice la ll lc, .int .i64 F.fuse, .int .i64 F.fault, .bool F.off]] w fun e w' => e = .returned (.int .i64 (if F.right = true then (F.many : Int) else 0)) ∧ Below w.heap.size w w' := by
  have hF' := hF.ext ((Below.refl _ w).alloc (Nat.le_refl _) (.cells #[.slice fa fl fc, .slice la ll lc, .int .i64 F.fuse, .int .i64 F.fault, .bool F.off] 25))
  have HAT := Lib.hid hF'; clear hF' hF
  have hb : Below w.heap.size w (w.alloc (.cells #[.slice fa fl fc, .slice la ll lc, .int .i64 F.fuse, .int .i64 F.fault, .bool F.off] 25)) := (Below.refl _ w).alloc (Nat.le_refl _) _
  cases hr : F.right with
  | true =>
    have herr : F.err = 0 := by unfold FileD.err; rw [if_pos hr]
    have HL := Lib.hid (FileD.len_right hr)
    go_enter Try.func26, Try.ntmps26
    go_wp2_with fail
    refine (Try_Check F fa la fl fc ll lc _ HAT.out).mono ?_; rintro e w1 ⟨rfl, hb1⟩
    obtain ⟨hc1, hf1, hs1⟩ := after hb1
    simp only [World.size_alloc] at hs1
    rw [herr]
    go_wp2_with fail
    refine (Try_length F fa la fl fc ll lc _ (HAT.out.ext hb1)).mono ?_; rintro e w2 ⟨rfl, hb2⟩
    go_wp2
    go_ret
    exact ⟨ret_int HL.out, (by repeat (first | (with_reducible exact Below.refl _ _) | (with_reducible exact Below.refl _ _) | (with_reducible refine Below.setCell ?_ (by first | omega | (simp; done) | (simp; omega)) _) | (with_reducible refine Below.alloc ?_ (by first | omega | (simp; done) | (simp; omega)) _) | (with_reducible refine Below.drew ?_) | (with_reducible refine below_drewN ?_ _) | (with_reducible refine Below.trans ?_ (hb2.mono (by first | omega | (simp; done) | (simp; omega)))) | (with_reducible refine Below.trans ?_ (hb1.mono (by first | omega | (simp; done) | (simp; omega))))))⟩
  | false =>
    have herr : F.err = 200 := by unfold FileD.err; rw [if_neg (by rw [hr]; decide)]
    go_enter Try.func26, Try.ntmps26
    go_wp2_with fail
    refine (Try_Check F fa la fl fc ll lc _ HAT.out).mono ?_; rintro e w1 ⟨rfl, hb1⟩
    rw [herr]
    go_wp2
    go_ret
    exact ⟨rfl, (by repeat (first | (with_reducible exact Below.refl _ _) | (with_reducible exact Below.refl _ _) | (with_reducible refine Below.setCell ?_ (by first | omega | (simp; done) | (simp; omega)) _) | (with_reducible refine Below.alloc ?_ (by first | omega | (simp; done) | (simp; omega)) _) | (with_reducible refine Below.drew ?_) | (with_reducible refine below_drewN ?_ _) | (with_reducible refine Below.trans ?_ (hb1.mono (by first | omega | (simp; done) | (simp; omega))))))⟩
end Go.Proofs.Ytmjmjjakhmeogaa
