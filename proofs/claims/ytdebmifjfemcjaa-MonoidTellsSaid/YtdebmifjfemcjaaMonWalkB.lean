/-
  Layer 13: a number so many times, and the bounds of a sum, walked.
-/
import Derived.Test.YtdebmifjfemcjaaMonWalkA
import Derived.Test.YtdebmifjfemcjaaBlk
namespace Go.Proofs.Ytdebmifjfemcjaa
set_option linter.unusedVariables false
set_option linter.unusedSimpArgs false
open Go.RowKit Go.Dav
attribute [local go_sem] Gives ite_val ite_val_true

/-- What the loop keeps: what is in the two sums, and what is still to be added. -/
def TryTimesRel (w : World) (n k : Int) (kv pv : Value) (wr : World) : Prop :=
  ∃ (m p : Nat) (acc base : Int), kv = .int .i64 m ∧ I64 m ∧ pv = .pointer (some ⟨p, 0, none⟩) ∧ w.heap.size + 1 < p ∧ acc + base * m = n * k ∧
    Blk wr (w.heap.size + 1) [.int .i64 (hi acc), .int .u64 (lo acc)] 68 ∧ Blk wr p [.int .i64 (hi base), .int .u64 (lo base)] 68 ∧
    Blk wr w.heap.size [.int .i64 0, .int .u64 0] 68 ∧ Below w.heap.size w wr

set_option maxRecDepth 4000 in
theorem Try_times (n k : Int) (w : World) (h1 : I64 n) (h3 : 0 ≤ k) (h4 : I64 k) :
    Calls Try.prog 42 #[.int .i64 n, .int .i64 k] w fun e w' => e = .returned (.agg #[.int .i64 (hi (n * k)), .int .u64 (lo (n * k))]) ∧ Below w.heap.size w w' := by
  obtain ⟨m0, rfl⟩ := Int.eq_ofNat_of_zero_le h3
  go_enter Try.func42, Try.ntmps42
  go_wp2_with (first | (go_at_call 26; refine (Try_of _ _ h1).mono ?_; rintro e w1 ⟨rfl, hb⟩; obtain ⟨hc, hf, hs⟩ := after hb))
  go_loopw [1, 6] (fun kv pv wr => TryTimesRel w n m0 kv pv wr) (fun kv _ _ => (intOf kv).toNat)
  case atStart =>
    refine ⟨m0, w1.heap.size, 0, n, rfl, h4, rfl, by simp at hs; omega, by omega, ?_, Blk.new _ [_, _] _, ?_, ?_⟩
    · have := ((Blk.new (w.alloc (.cells #[.int .i64 0, .int .u64 0] 68)) [.int .i64 0, .int .u64 0] 68).ext hb).alloc (.cells #[.int .i64 (hi n), .int .u64 (lo n)] 68)
      rw [hi_zero, lo_zero]
      simpa using this
    · exact (((Blk.new _ [_, _] _).alloc _).ext hb).alloc _
    · exact (ext_trans (((Below.refl _ _).alloc (Nat.le_refl _) _).alloc (by simp) _) hb).alloc (by simp at hs; omega) _
  case round =>
    obtain ⟨m, p, acc, base, rfl, hm, rfl, hp, heq, ho, hpart, hres, hbel⟩ := hrel
    have c0 := ho.cell 0 rfl
    have c1 := ho.cell 1 rfl
    have c2 := hpart.cell 0 rfl
    have c3 := hpart.cell 1 rfl
    have f0 := ho.frozen 0
    have f1 := ho.frozen 1
    have f2 := hpart.frozen 0
    have f3 := hpart.frozen 1
    have l0 := ho.lt
    have l1 := hpart.lt
    have hn1 : w.heap.size + 1 ≠ p := by omega
    have hbs := hbel.size
    have Heq := Lib.hid heq; clear heq
    by_cases hz : m = 0
    · subst hz
      have hr0 := hres.cell 0 rfl
      have hr1 := hres.cell 1 rfl
      have hrf0 := hres.frozen 0
      have hrf1 := hres.frozen 1
      go_wp2
      have e : n * m0 = acc := by have := Heq.out; simp at this; omega
      refine bodyPost_ret (v := .agg #[.int .i64 (hi acc), .int .u64 (lo acc)]) (by simp [results, Try.results42, go_sem, hr0, hr1]) rfl ⟨by rw [e], ?_⟩
      exact (hbel.setCell (p := ⟨w.heap.size, 0, none⟩) (Nat.le_refl _) _).setCell (p := ⟨w.heap.size, 1, none⟩) (Nat.le_refl _) _
    · have ha := and_one_i64 m hm
      have hm0 : (0 : Int) < (m : Int) := by omega
      have hn2 : p ≠ w.heap.size + 1 := by omega
      have eI : I64 ((m / 2 : Nat) : Int) := by unfold I64 at *; omega
      by_cases hodd : m % 2 = 1
      · have e1 : acc + base + (base + base) * ((m / 2 : Nat) : Int) = n * m0 := by
          rw [half_odd acc base m hodd]; exact Heq.out
        rw [hodd] at ha
        have Ho := Lib.hid hodd; clear hodd
        have E1 := Lib.hid e1; clear e1
        go_wp2_with fail
        refine (Try_plus _ _ _).mono ?_; rintro e w1 ⟨rfl, hb1⟩; obtain ⟨hc1, hf1, hs1⟩ := after hb1
        have lp1 := Nat.lt_of_lt_of_le l1 hs1
        have lo1 := Nat.lt_of_lt_of_le l0 hs1
        go_wp2_with fail
        refine (Try_plus _ _ _).mono ?_; rintro e w2 ⟨rfl, hb2⟩; obtain ⟨hc2, hf2, hs2⟩ := after hb2
        simp only [World.size_setCell] at hs2
        have lp2 := Nat.lt_of_lt_of_le lp1 hs2
        have lo2 := Nat.lt_of_lt_of_le lo1 hs2
        go_wp2_with fail
        go_roundw
        case rel =>
          have b0 := (((ho.ext hb1).set 0 (.int .i64 (hi (acc + base)))).set 1 (.int .u64 (lo (acc + base)))).ext hb2
          have b1 := (((hpart.ext hb1).other hn2 0 (.int .i64 (hi (acc + base)))).other hn2 1 (.int .u64 (lo (acc + base)))).ext hb2
          have b2 := (((hres.ext hb1).other (by omega) 0 (.int .i64 (hi (acc + base)))).other (by omega) 1 (.int .u64 (lo (acc + base)))).ext hb2
          have bl := (((hbel.trans (hb1.mono hbs)).setCell (p := ⟨w.heap.size + 1, 0, none⟩) (by simp) (.int .i64 (hi (acc + base)))).setCell (p := ⟨w.heap.size + 1, 1, none⟩) (by simp) (.int .u64 (lo (acc + base)))).trans (hb2.mono (by simp; omega))
          refine ⟨m / 2, w2.heap.size, acc + base, base + base, by simp, eI, rfl, by omega, E1.out, ?_, Blk.new' _ [_, _] _ (by simp), ?_, ?_⟩
          · exact ((b0.other hn1 _ _).other hn1 _ _).alloc _
          · exact ((b2.other (by omega) _ _).other (by omega) _ _).alloc _
          · exact ((bl.setCell (p := ⟨p, 0, none⟩) (by simp; omega) _).setCell (p := ⟨p, 1, none⟩) (by simp; omega) _).alloc (by simp; omega) _
        case measure => simp [intOf]; omega
      · have hev : m % 2 = 0 := by omega
        have e1 : acc + (base + base) * ((m / 2 : Nat) : Int) = n * m0 := by
          rw [half_even acc base m hev]; exact Heq.out
        rw [hev] at ha
        have E1 := Lib.hid e1; clear e1
        have Ho := Lib.hid hodd; clear hodd
        have Hev := Lib.hid hev; clear hev
        go_wp2_with fail
        refine (Try_plus _ _ _).mono ?_; rintro e w2 ⟨rfl, hb2⟩; obtain ⟨hc2, hf2, hs2⟩ := after hb2
        have lp2 := Nat.lt_of_lt_of_le l1 hs2
        have lo2 := Nat.lt_of_lt_of_le l0 hs2
        go_wp2_with fail
        go_roundw
        case rel =>
          have bl := hbel.trans (hb2.mono hbs)
          refine ⟨m / 2, w2.heap.size, acc, base + base, by simp, eI, rfl, by omega, E1.out, ?_, Blk.new' _ [_, _] _ (by simp), ?_, ?_⟩
          · exact (((ho.ext hb2).other hn1 _ _).other hn1 _ _).alloc _
          · exact (((hres.ext hb2).other (by omega) _ _).other (by omega) _ _).alloc _
          · exact ((bl.setCell (p := ⟨p, 0, none⟩) (by simp; omega) _).setCell (p := ⟨p, 1, none⟩) (by simp; omega) _).alloc (by simp; omega) _
        case measure => simp [intOf]; omega
end Go.Proofs.Ytdebmifjfemcjaa
