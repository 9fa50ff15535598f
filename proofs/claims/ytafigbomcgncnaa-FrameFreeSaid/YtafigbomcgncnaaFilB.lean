/-
  Layer 10: Len, and the reference's Long and Right, walked.
-/
import Derived.Test.YtafigbomcgncnaaFilA
namespace Go.Proofs.Ytafigbomcgncnaa
set_option linter.unusedVariables false
set_option linter.unusedSimpArgs false
open Go.RowKit Go.Dav
attribute [local go_sem] Gives ite_val ite_val_true

/-- What 'Long' answers: how many bytes, or more than may be. -/
def TryLong (F : FileD) (w : World) (e : Ending) (w' : World) : Prop :=
  ∃ n : Nat, e = .returned (.int .i64 n) ∧ (F.many ≤ 524288 → n = F.many) ∧ (524288 < F.many → 524288 < n) ∧ n ≤ 281474976710656 ∧ Below w.heap.size w w'

def TryLongRel (w : World) (F : FileD) (fl : Nat) (cs : List Value) (ix n : Value) (wr : World) : Prop :=
  ∃ k m : Nat, k ≤ F.loose.length ∧ m = fl + sumTo F.loose k ∧ ix = .int .i64 k ∧ n = .int .i64 m ∧ m ≤ 281474976710656 ∧ wr = w.alloc (.cells cs.toArray 25)

def TryRightRel (w : World) (F : FileD) (cs : List Value) (ix : Value) (wr : World) : Prop :=
  ∃ k : Nat, k ≤ F.loose.length ∧ ix = .int .i64 k ∧ ((F.loose.take k).all fun p => !p.isEmpty) = true ∧ wr = w.alloc (.cells cs.toArray 25)

theorem FileD.len_right {F : FileD} (h : F.right = true) : F.len = F.many := by
  have := FileD.right_spec.1 h
  unfold FileD.len
  rw [if_pos ⟨this.1, this.2.2.2.2⟩]

set_option maxHeartbeats 4000000 in
theorem Try_Len (F : FileD) (fa la : Option Addr) (fl fc ll lc : Nat) (w : World) (hF : FileAt w fa fl fc la ll lc F) :
    Calls Try.prog 24 #[.agg #[.slice fa fl fc, .slice la ll lc, .int .i64 F.fuse, .int .i64 F.fault, .bool F.off]] w fun e w' => e = .returned (.int .i64 (if F.right = true then (F.many : Int) else 0)) ∧ Below w.heap.size w w' := by
  have hF' := hF.ext ((Below.refl _ w).alloc (Nat.le_refl _) (.cells #[.slice fa fl fc, .slice la ll lc, .int .i64 F.fuse, .int .i64 F.fault, .bool F.off] 25))
  have HAT := Lib.hid hF'; clear hF' hF
  have hb : Below w.heap.size w (w.alloc (.cells #[.slice fa fl fc, .slice la ll lc, .int .i64 F.fuse, .int .i64 F.fault, .bool F.off] 25)) := (Below.refl _ w).alloc (Nat.le_refl _) _
  cases hr : F.right with
  | true =>
    have herr : F.err = 0 := by unfold FileD.err; rw [if_pos hr]
    have HL := Lib.hid (FileD.len_right hr)
    go_enter Try.func24, Try.ntmps24
    go_wp2_with fail
    refine (Try_Check F fa la fl fc ll lc _ HAT.out).mono ?_; rintro e w1 ⟨rfl, hb1⟩
    obtain ⟨hc1, hf1, hs1⟩ := after hb1
    simp only [World.size_alloc] at hs1
    rw [herr]
    go_wp2_with fail
    refine (Try_length F fa la fl fc ll lc _ (HAT.out.ext hb1)).mono ?_; rintro e w2 ⟨rfl, hb2⟩
    go_wp2
    go_ret
    exact ⟨ret_int HL.out, (by repeat (first | (with_reducible exact Below.refl _ _) | (with_reducible exact Below.refl _ _) | (with_reducible refine Below.setCell ?_ (by first | omega | (simp; done) | (simp; omega)) _) | (with_reducible refine Below.alloc ?_ (by first | omega | (simp; done) | (simp; omega)) _) | (with_reducible refine Below.drew ?_) | (with_reducible refine below_drewN ?_ _) | (with_reducible refine Below.trans ?_ (hb2.mono (by first | omega | (simp; done) | (simp; omega)))) | (with_reducible refine Below.trans ?_ (hb1.mono (by first | omega | (simp; done) | (simp; omega))))))⟩
  | false =>
    have herr : F.err = 200 := by unfold FileD.err; rw [if_neg (by rw [hr]; decide)]
    go_enter Try.func24, Try.ntmps24
    go_wp2_with fail
    refine (Try_Check F fa la fl fc ll lc _ HAT.out).mono ?_; rintro e w1 ⟨rfl, hb1⟩
    rw [herr]
    go_wp2
    go_ret
    exact ⟨rfl, (by repeat (first | (with_reducible exact Below.refl _ _) | (with_reducible exact Below.refl _ _) | (with_reducible refine Below.setCell ?_ (by first | omega | (simp; done) | (simp; omega)) _) | (with_reducible refine Below.alloc ?_ (by first | omega | (simp; done) | (simp; omega)) _) | (with_reducible refine Below.drew ?_) | (with_reducible refine below_drewN ?_ _) | (with_reducible refine Below.trans ?_ (hb1.mono (by first | omega | (simp; done) | (simp; omega))))))⟩
end Go.Proofs.Ytafigbomcgncnaa
